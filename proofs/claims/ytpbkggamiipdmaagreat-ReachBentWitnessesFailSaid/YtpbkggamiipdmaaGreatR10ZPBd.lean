/- Part of the proof: K10P7, ZPBa, ZPBb, ZPBc, ZPBd. -/
import Derived.Test.YtpbkggamiipdmaaGreatR10K10P7d
namespace Go.Proofs.YtpbkggamiipdmaaGreat
open Go Go.Pv
set_option linter.unusedVariables false
section
variable{g:q7c}{how:Int}{fs:List Tx}{F:Nat}
theorem rb_ok(R:q0h g){rl:List Tx}:∀{l:List q0c} {p:Option Tx},rbL rl g p l=true->
  (∀t,p=some t->∀m,m∈l->Op.bytesLess t m.Type_=true)/\(l.map (·.Type_)).Pairwise (fun a b=>Op.bytesLess a b=true)/\∀m,m∈l->m.Func∈rl/\∃x,x∈g.Funcs/\x.Name=m.Func/\m.Type_∈x.Makes
 |[],p,_=>⟨by simp,by simp,by simp⟩
 |m::l,p,h=>by
  rw[rbL,Bool.and_eq_true,Bool.and_eq_true,Bool.and_eq_true] at h
  obtain⟨h1,h2,h3,h4⟩:=h
  obtain⟨i1,i2,i3⟩:=rb_ok R h4
  have hm:∃x,x∈g.Funcs/\x.Name=m.Func/\m.Type_∈x.Makes:=by
   cases hf:(g.Funcs.find? fun x=>x.Name==m.Func) with
   |none=>rw[hf] at h3;simp at h3
   |some x=>
    rw[hf] at h3
    exact⟨x,List.mem_of_find?_eq_some hf,by have:=List.find?_some hf;simpa using this,by simpa using h3⟩
  refine⟨fun t ht m' hm'=>?_,?_,fun m' hm'=>?_⟩
  ·subst ht
   have h1:Op.bytesLess t m.Type_=true:=h1
   rcases List.mem_cons.1 hm' with e|e
   ·rw[e];exact h1
   ·exact q4n h1 (i1 _ rfl m' e)
  ·rw[List.map_cons,List.pairwise_cons]
   refine⟨fun t ht=>?_,i2⟩
   obtain⟨m',hm',rfl⟩:=List.mem_map.1 ht
   exact i1 _ rfl m' hm'
  ·rcases List.mem_cons.1 hm' with e|e
   ·rw[e];exact⟨by simpa using h2,hm⟩
   ·exact i3 m' e
theorem w8r(R:q0h g){rl:List Tx}{M:List q0c}(h:rbL rl g none M=true):MOk g M (List.replicate (((M.length:Nat):Int)).toNat false):=by
 obtain⟨_,h2,h3⟩:=rb_ok R h
 have ty:∀m,m∈M->j3t g m.Type_=true:=fun m hm=>by
  obtain⟨_,x,hx,_,ht⟩:=h3 m hm
  exact(R.f x hx).makes _ ht
 refine⟨ty,by simp,?_⟩
 have:=List.Nodup.length_le_of_subset (l₂:=g.Types.map (·.Name)) (q3x h2) (fun t ht=>by
  obtain⟨m,hm,rfl⟩:=List.mem_map.1 ht
  have:=ty m hm
  simpa[j3t] using this)
 have:=R.tl
 simp at *;omega
theorem w4h(k:Option Int):∀(l:List Bool) (n:Nat),∃r,z5m F false (some (-1)) l (n:Int)=some r/\(decide (r>=0)=l.contains false)
 |[],n=>⟨-1,rfl,rfl⟩
 |b::l,n=>by
  rw[z5m]
  obtain⟨r,e1,e2⟩:=w4h k l (n+1)
  cases b
  ·exact⟨n,by simp,by simp⟩
  ·rw[if_neg (by simp)]
   exact⟨r,e1,by rw[e2];simp⟩
theorem w6h(l:List Bool):M166 F l false=some (l.contains false):=by
 unfold M166 M205
 rw[q2e]
 obtain⟨r,e1,e2⟩:=w4h (F:=F) none l 0
 rw[show((0:Nat):Int)=0 from rfl] at e1
 rw[e1,Option.bind_some,e2]
theorem z6a:∀l:List Bool,(!(l.contains false))=l.all id
 |[]=>rfl
 |b::l=>by
  have:=z6a l
  rw[List.contains_cons,List.all_cons,<-this]
  cases b<;>simp
def v3j(g:q7c)(how:Int)(fs rl:List Tx)(target:Tx)(w:q3e):Bool:=
 g.Entries.contains w.Entry&&(rbL rl g none w.Made&&((how==2||w.Made.isEmpty)&&(match q8w g how fs w.Made w.Hops w.Entry (List.replicate (((w.Made.length:Nat):Int)).toNat false) with|none=>false|some p=>p.1==target&&p.2.all id)))
theorem y3d(hF:10000<=F)(hg:q2o g)(hfs:∀x,x∈fs->x.length<=maxLen)(h0:z7v g how fs=0){rl m u:List Tx}(A:Ans g how fs rl m u)(t:Tx)(w:q3e)(hw:w.Made.length<=maxLen):M109 F (wOf g how fs) t w=some (v3j g how fs rl t w):=by
 obtain⟨R,hh⟩:=q9y h0
 obtain⟨sp,s1,s2,s3,s4,s5⟩:=j3y (wok (F:=F) (by omega) R how fs) hF
 unfold M109 v3j
 rw[s1,Option.bind_some,Option.bind_some,show(wOf g how fs).g.Entries=g.Entries from rfl,v7r,Option.bind_some]
 cases he:g.Entries.contains w.Entry
 ·simp
 ·have hent:q4q g w.Entry=true:=R.e _ (by simpa using he)
  have e85:M162 F (wOf g how fs) sp w.Made=some (rbL rl g none w.Made):=by
   unfold M162
   rw[q2e]
   have:=j2q (F:=F) (how:=how) (fs:=fs) R s2 (rl:=rl) (sp:=sp) (fun i hi=>by rw[s4,A.r,<-j6y (F:=F) (by omega) R hh fs hi];exact⟨fun q=>q.2,fun q=>⟨hi,q⟩⟩) (fun x hx=>by simpa using ((A.r x).1 hx).names R) w.Made hw (some true) w.Made 0 rfl
   rw[show((0:Nat):Int)=0 from rfl] at this
   rw[this]
   have:v5v w.Made 0=none:=rfl
   rw[this]
   cases rbL rl g none w.Made<;>rfl
  simp only[Bool.not_true,Bool.false_eq_true,if_false,Bool.true_and]
  rw[e85,Option.bind_some]
  cases hr:rbL rl g none w.Made
  ·simp
  ·have hmk:=w8r R hr
   have hlen:=hmk.sm
   simp only[Bool.not_true,Bool.false_eq_true,if_false,Bool.true_and]
   have hsz:0<=((w.Made.length:Nat):Int)/\((1:Nat):Int)*((w.Made.length:Nat):Int)<=140737488355328/\((w.Made.length:Nat):Int)<=140737488355328:=by omega
   rcases hh with h1|h2
   ·subst h1
    have hmd:(wOf g 1 fs).made=false:=by simp[wOf]
    rw[hmd]
    simp only[Bool.not_false,if_true]
    cases hM:w.Made with
    |cons a b=>simp
    |nil=>
     simp only[List.length_nil]
     rw[if_neg (by simp),if_pos (by decide)]
     simp only[q2e]
     rw[j3s (by omega) R w _ w.Hops w.Entry _ hent,hM]
     show _=some ((((1:Int)==2)||true)&&_)
     simp only[Bool.or_true,Bool.true_and]
     cases q8w g 1 fs [] w.Hops w.Entry (List.replicate (((0:Nat):Int)).toNat false) with
     |none=>rfl
     |some p=>
      simp only
      cases (p.1==t)
      ·simp
      ·rw[if_pos rfl,w6h,Option.bind_some,z6a];simp
   ·subst h2
    have hmd:(wOf g 2 fs).made=true:=by simp[wOf]
    rw[hmd]
    simp only[Bool.not_true,Bool.false_eq_true,if_false]
    rw[if_pos hsz]
    simp only[q2e]
    rw[z1v (by omega) R w _ w.Hops w.Entry _ hent hmk]
    show _=some ((((2:Int)==2)||_)&&_)
    simp only[beq_self_eq_true,Bool.true_or,Bool.true_and]
    cases q8w g 2 fs w.Made w.Hops w.Entry (List.replicate (((w.Made.length:Nat):Int)).toNat false) with
    |none=>rfl
    |some p=>
     simp only
     cases (p.1==t)
     ·simp
     ·rw[if_pos rfl,w6h,Option.bind_some,z6a];simp
theorem j5a(hg:q2o g)(hfs:∀x,x∈fs->x.length<=maxLen)(hl:fs.length<=maxLen)(t:Tx):w3j F g how fs [t]=some (if z7v g how fs≠0 then z7v g how fs else if q4q g t=true then 0 else 4):=by
 have a1:=M18_eq F g hg
 have a2:=M81_eq F fs hfs hl
 have a3:(match g.Funcs.find? (fun x:q5e=>x.Name==t) with|some x=>(x,true)|none=>(q5e.mk [] [] [] [],false)).2=q4q g t:=by
  cases hf:q4q g t
  ·rw[w0e hf]
  ·obtain⟨x,hx,rfl⟩:=z6z.1 hf
   cases h:(g.Funcs.find? fun y=>y.Name==x.Name) with
   |none=>rw[List.find?_eq_none] at h;exact absurd (by simp) (h x hx)
   |some y=>rfl
 unfold w3j
 rw[a1,Option.bind_some,a2,Option.bind_some]
 unfold z7v
 by_cases h1:chk false g=0
 ·by_cases h2:feE fs=0
  ·by_cases h3:how=1
   ·simp only[h1,h2,h3,q2e,z2v,w1i,Option.bind_some,a3]
    cases hft:q4q g t<;>rw[hft] at a3<;>simp<;>exact a3
   ·by_cases h4:how=2
    ·simp only[h1,h2,h4,q2e,z3v,w1i,Option.bind_some,a3]
     cases hft:q4q g t<;>rw[hft] at a3<;>simp<;>exact a3
    ·simp[h1,h2,h3,h4]
  ·simp[h1,h2]
 ·simp[h1]
theorem M40_eq(hF:10000<=F)(hg:q2o g)(hfs:∀x,x∈fs->x.length<=maxLen)(hl:fs.length<=maxLen){rl m u:List Tx}(A:z7v g how fs=0->Ans g how fs rl m u)(t:Tx)(w:q3e)(hw:w.Made.length<=maxLen):
  M40 F g how fs t w=some (if z7v g how fs≠0 then (false,z7v g how fs) else if q4q g t=true then (v3j g how fs rl t w,0) else (false,4)):=by
 unfold M40
 by_cases h0:z7v g how fs=0
 ·rw[if_neg (by simp[h0])]
  have A:=A h0
  obtain⟨R,hh⟩:=q9y h0
  cases ht:q4q g t
  ·have hv:w3j F g how fs [t]=some 4:=by rw[j5a hg hfs hl,if_neg (by simp[h0]),ht];rfl
   rw[hv];rfl
  ·have hv:w3j F g how fs [t]=some 0:=by rw[j5a hg hfs hl,if_neg (by simp[h0]),ht];rfl
   rw[hv,Option.bind_some,if_pos rfl,if_neg (by simp)]
   obtain⟨n,e1,N⟩:=w1h F g fs R
   obtain⟨s,e2,X⟩:=v9k (how:=how) R N F hF
   rw[e1,Option.bind_some,q2e,j3j,Bool.false_or,show g.Entries.contains w.Entry=g.Entries.contains w.Entry from rfl]
   unfold v3j
   cases he:g.Entries.contains w.Entry
   ·simp
   ·have hent:q4q g w.Entry=true:=R.e _ (by simpa using he)
    have hs:∀x,(q6b s.reached x).getD false=rl.contains x:=fun x=>by
     rw[Bool.eq_iff_iff,X.r.get,X.hr,List.contains_iff_mem,A.r]
    have e60:M116 F n s w.Made=some (rbL rl g none w.Made):=by
     unfold M116
     rw[q2e]
     have:=j1s (F:=F) R N hs (fun x hx=>by simpa using ((A.r x).1 hx).names R) w.Made hw (some true) w.Made 0 rfl
     rw[show((0:Nat):Int)=0 from rfl] at this
     rw[this]
     have:v5v w.Made 0=none:=rfl
     rw[this]
     cases rbL rl g none w.Made<;>rfl
    simp only[Bool.not_true,Bool.false_eq_true,if_false,Bool.true_and,e2,e60,Option.bind_some]
    rcases hh with h1|h2
    ·subst h1
     rw[if_pos (show((1:Int)==1)=true from rfl)]
     cases hM:w.Made with
     |cons a b=>
      rw[if_pos (by simp)]
      cases rbL rl g none (a::b)<;>rfl
     |nil=>
      rw[if_neg (by simp)]
      have:rbL rl g none ([]:List q0c)=true:=rfl
      rw[this]
      simp only[Bool.not_true,Bool.false_eq_true,if_false,List.length_nil]
      rw[if_pos (by decide)]
      simp only[q2e]
      rw[v7f R N w hM _ w.Hops w.Entry _ hent,hM]
      show _=some (true&&((((1:Int)==2)||true)&&_),0)
      simp only[Bool.or_true,Bool.true_and]
      cases q8w g 1 fs [] w.Hops w.Entry (List.replicate (((0:Nat):Int)).toNat false) with
      |none=>rfl
      |some p=>
       simp only
       rw[v5f]
       cases (p.1==t)<;>cases p.2.all id<;>rfl
    ·subst h2
     rw[if_neg (show ¬((2:Int)==1)=true by decide)]
     cases hr:rbL rl g none w.Made
     ·simp
     ·have hmk:=w8r R hr
      have hlen:=hmk.sm
      simp only[Bool.not_true,Bool.false_eq_true,if_false]
      have hsz:0<=((w.Made.length:Nat):Int)/\((1:Nat):Int)*((w.Made.length:Nat):Int)<=140737488355328/\((w.Made.length:Nat):Int)<=140737488355328:=by omega
      rw[if_pos hsz]
      simp only[q2e]
      rw[v4f R N w _ w.Hops w.Entry _ hent hmk.len]
      show _=some (true&&((((2:Int)==2)||_)&&_),0)
      simp only[beq_self_eq_true,Bool.true_or,Bool.true_and]
      cases q8w g 2 fs w.Made w.Hops w.Entry (List.replicate (((w.Made.length:Nat):Int)).toNat false) with
      |none=>rfl
      |some p=>
       simp only
       rw[j8p]
       cases (p.1==t)<;>cases p.2.all id<;>rfl
 ·have hv:w3j F g how fs [t]=some (z7v g how fs):=by rw[j5a hg hfs hl,if_pos h0]
  rw[hv,Option.bind_some,if_pos (by simpa using h0),if_pos h0]
theorem M31_eq(hF:10000<=F)(hg:q2o g)(hfs:∀x,x∈fs->x.length<=maxLen){rl m u:List Tx}(A:z7v g how fs=0->Ans g how fs rl m u)(t:Tx)(w:q3e)(hw:w.Made.length<=maxLen):
  M31 F g how fs t w=some (if z7v g how fs≠0 then (false,z7v g how fs) else if q4q g t=true then (v3j g how fs rl t w,0) else (false,4)):=by
 unfold M31 M90
 rw[w4u F g how fs hg hfs (by omega),Option.bind_some]
 by_cases h0:z7v g how fs=0
 ·rw[h0]
  simp only[ne_eq,not_true_eq_false,if_false,bne_self_eq_false,Bool.false_eq_true,Option.bind_some]
  cases ht:q4q g t
  ·rw[z2e how fs ht];simp
  ·obtain⟨i,hi,he⟩:=q3q ht
   have:q6b (wOf g how fs).funcs t=some (i:Int):=by rw[<-he];exact z5t (q9y h0).1 how fs hi
   rw[this]
   simp only[Option.isSome_some,Bool.not_true,Bool.false_eq_true,if_false,Option.bind_some,bne_self_eq_false,if_true]
   rw[y3d hF hg hfs h0 (A h0) t w hw,Option.bind_some]
 ·have h0':(z7v g how fs != 0)=true:=by simpa using h0
  simp only[ne_eq,h0,not_false_eq_true,if_true,h0',Option.bind_some]
end
def cnt(g:q7c)(how:Int)(fs:List Tx)(a:q1a):Prop:=how≠1->a.typ≠[]->RN g how (onF fs) true a.typ
def gd(g:q7c)(how:Int)(fs:List Tx)(c:q6c)(y:Tx):Prop:=∃a,a∈q3j g c/\cnt g how fs a/\a.to=y
structure TgC(g:q7c)(how:Int)(fs:List Tx)(c:q6c)(l:List Int):Prop where
 srt:l.Pairwise (·<·)
 len:l.length<=500
 nat:∀v,v∈l->∃i:Nat,i<g.Funcs.length/\v=i
 mem:∀i:Nat,∀h:i<g.Funcs.length,(i:Int)∈l<->gd g how fs c (g.Funcs[i]).Name
theorem v2i{R:Type}{n:Nat}{k:Bool->Option R}(h:n≠0):y3a n k=k false:=by unfold y3a;rw[if_pos h]
theorem v6d(F:Nat)(w:q1b)(c:q6c)(md:List Bool)(k:List Int->Option (List Int))(f:Int->Int):∀(l:List Int) (o:List Int),(∀t,t∈l->z3f F w c t=some (f t)/\0<=t/\t.toNat<md.length)->o.length+l.length<=100000->
  z7w F w c md k l o=k (o++(l.filter fun t=>md.getD t.toNat false).map f)
 |[],o,_,_=>by simp[z7w]
 |t::l,o,h,hl=>by
  simp only[List.length_cons] at hl
  obtain⟨h1,h2,h3⟩:=h t (by simp)
  have ih:=fun o' ho=>v6d F w c md k f l o' (fun t ht=>h t (List.mem_cons_of_mem _ ht)) ho
  have hi:idx md t=some (md.getD t.toNat false):=by
   have:=q2h h3
   rw[Int.toNat_of_nonneg h2] at this
   rw[this,List.getD_eq_getElem?_getD,List.getElem?_eq_getElem h3,Option.getD_some]
  rw[z7w]
  simp only[q2e]
  rw[v2i (by omega),if_neg (by simp),hi,Option.bind_some,List.filter_cons]
  cases hb:md.getD t.toNat false
  ·rw[if_neg (by simp),if_neg (by simp),ih _ (by omega)]
  ·rw[if_pos rfl,if_pos rfl,h1,Option.bind_some,if_pos (by simp;omega),ih _ (by simp;omega)]
   simp
section
variable{g:q7c}{how:Int}{fs:List Tx}
theorem w3v(F:Nat)(hF:1000<=F)(R:q0h g)(h1:how=1){x:q5e}(hx:x∈g.Funcs){c:q6c}(hc:c∈x.Calls):∃l,j0h F (wOf g how fs) c=some l/\TgC g how fs c l:=by
 obtain⟨l,e,T⟩:=v6r F hF R how fs hx hc
 refine⟨l,e,T.srt,T.len,T.nat,fun i hi=>(T.mem i hi).trans ?_⟩
 constructor
 ·rintro⟨a,ha,he⟩;exact⟨a,ha,fun q=>absurd h1 q,he⟩
 ·rintro⟨a,ha,_,he⟩;exact⟨a,ha,he⟩
theorem w1k(F:Nat)(hF:1000<=F)(R:q0h g)(h2:how≠1){md:List Bool}(hml:md.length=g.Types.length)(hmd:∀i:Nat,∀h:i<g.Types.length,tru md i<->RN g how (onF fs) true (g.Types[i]).Name)
  {x:q5e} (hx:x∈g.Funcs) {c:q6c} (hc:c∈x.Calls):∃l,M92 F (wOf g how fs) c md=some l/\TgC g how fs c l:=by
 unfold M92
 by_cases k:c.Kind=1
 ·rw[if_pos (by simp[k])]
  have ha:q1a.mk [] c.Target∈q3j g c:=by unfold q3j;rw[if_pos k];simp
  obtain⟨i,hi,he⟩:=q3q (q1r R hx hc ha)
  have he:(g.Funcs[i]).Name=c.Target:=he
  have hf:(q6b (wOf g how fs).funcs c.Target).getD 0=(i:Int):=by rw[<-he];exact q1t R how fs hi
  refine⟨_,rfl,by simp,by simp,fun v hv=>?_,fun j hj=>?_⟩
  ·simp only[List.mem_singleton] at hv;rw[hf] at hv;exact⟨i,hi,hv⟩
  ·simp only[List.mem_singleton]
   rw[hf]
   unfold gd q3j
   rw[if_pos k]
   simp only[List.mem_singleton]
   constructor
   ·intro h
    have:j=i:=by omega
    subst this
    exact⟨_,rfl,fun _ q=>absurd rfl q,he.symm⟩
   ·rintro⟨a,rfl,_,h⟩
    have h:c.Target=(g.Funcs[j]).Name:=h
    have h1:=q1t R how fs hj
    rw[<-h,<-he,q1t R how fs hi] at h1
    omega
 ·rw[if_neg (by simpa using k),q2e]
  obtain⟨I,I1,I2,I3,I4⟩:=z7t R hx hc k
  have hfit:∀t,t∈z8r (wOf g how fs) c.Target<->∃j:Nat,∃h:j<g.Types.length,t=j/\j1p g.Types[j] I=true:=z2t R how fs I2
  have hlen:(z8r (wOf g how fs) c.Target).length<=500:=by
   have e:z8r (wOf g how fs) c.Target=q9l I 0 g.Types:=by
    unfold z8r wOf
    simp only
    rw[z8i g.Types c.Target g.Ifaces [] R.isrt]
    simp only[q6b,Option.getD_none,List.nil_append]
    rw[I2];rfl
   rw[e]
   have:=z4t I g.Types 0
   have:=R.tl
   omega
  have hgd:∀j:Nat,j<g.Types.length->(md.getD j false=true<->tru md j):=by
   intro j hj
   unfold tru
   rw[List.getD_eq_getElem?_getD,List.getElem?_eq_getElem (by rw[hml];exact hj)]
   simp
  let f:Int->Int:=fun t=>fI (wOf g how fs) (mOf (g.Types.getD t.toNat (q7i.mk [] [])) c.Method).1
  let L:=(z8r (wOf g how fs) c.Target).filter fun t=>md.getD t.toNat false
  have hL:∀t,t∈L<->∃j:Nat,∃h:j<g.Types.length,t=j/\j1p g.Types[j] I=true/\RN g how (onF fs) true (g.Types[j]).Name:=by
   intro t
   simp only[L]
   rw[List.mem_filter,hfit]
   constructor
   ·rintro⟨⟨j,hj,rfl,h⟩,h'⟩
    exact⟨j,hj,rfl,h,(hmd j hj).1 ((hgd j hj).1 (by simpa using h'))⟩
   ·rintro⟨j,hj,rfl,h,h'⟩
    exact⟨⟨j,hj,rfl,h⟩,by simpa using (hgd j hj).2 ((hmd j hj).2 h')⟩
  have hLl:L.length<=500:=Nat.le_trans (List.length_filter_le _ _) hlen
  have hm:∀t,t∈z8r (wOf g how fs) c.Target->z3f F (wOf g how fs) c t=some (f t)/\0<=t/\t.toNat<md.length:=by
   intro t ht
   obtain⟨j,hj,rfl,_⟩:=(hfit t).1 ht
   refine⟨?_,by omega,by simp[hml];exact hj⟩
   rw[z7u hF R how fs c hj]
   simp only[f,Int.toNat_natCast,List.getD_eq_getElem?_getD,List.getElem?_eq_getElem hj,Option.getD_some]
  have e:=v6d F (wOf g how fs) c md (fun l5=>(w7u F l5).bind fun y17=>if y17.length=l5.length then (w6u F y17).bind fun y20=>some y20 else none) f (z8r (wOf g how fs) c.Target) [] hm (by simp;omega)
  refine⟨cpt (v6a (L.map f)),?_,v7q (v5a _),?_,?_,?_⟩
  ·refine e.trans ?_
   simp only[List.nil_append]
   unfold w7u
   rw[if_pos (by simp only[List.length_map];exact Nat.lt_of_le_of_lt hLl (by omega)),Option.bind_some,if_pos (q6n _).length_eq]
   unfold w6u
   rw[if_pos (by rw[(q6n _).length_eq];simp only[List.length_map];exact Nat.le_trans hLl (by omega)),Option.bind_some]
  ·have:=v8q (v6a (L.map f))
   rw[(q6n _).length_eq,List.length_map] at this
   omega
  ·intro v hv
   rw[j1a,(q6n _).mem_iff] at hv
   obtain⟨t,ht,rfl⟩:=List.mem_map.1 hv
   obtain⟨j,hj,rfl,hft,_⟩:=(hL t).1 ht
   have ha:q1a.mk (g.Types[j]).Name (mOf g.Types[j] c.Method).1∈q3j g c:=by
    unfold q3j
    rw[if_neg k]
    exact List.mem_filterMap.2 ⟨g.Types[j],List.getElem_mem _,by unfold j4a;rw[if_pos ⟨I4 _ hft,by rw[I3];exact hft⟩]⟩
   obtain⟨q,hq,he⟩:=q3q (q1r R hx hc ha)
   have he:(g.Funcs[q]).Name=(mOf g.Types[j] c.Method).1:=he
   refine⟨q,hq,?_⟩
   simp only[f,Int.toNat_natCast,List.getD_eq_getElem?_getD,List.getElem?_eq_getElem hj,Option.getD_some]
   rw[<-he];exact q1t R how fs hq
  ·intro i hi
   rw[j1a,(q6n _).mem_iff,List.mem_map]
   constructor
   ·rintro⟨t,ht,he⟩
    obtain⟨j,hj,rfl,hft,hr⟩:=(hL t).1 ht
    have ha:q1a.mk (g.Types[j]).Name (mOf g.Types[j] c.Method).1∈q3j g c:=by
     unfold q3j
     rw[if_neg k]
     exact List.mem_filterMap.2 ⟨g.Types[j],List.getElem_mem _,by unfold j4a;rw[if_pos ⟨I4 _ hft,by rw[I3];exact hft⟩]⟩
    obtain⟨q,hq,hqe⟩:=q3q (q1r R hx hc ha)
    have hqe:(g.Funcs[q]).Name=(mOf g.Types[j] c.Method).1:=hqe
    simp only[f,Int.toNat_natCast,List.getD_eq_getElem?_getD,List.getElem?_eq_getElem hj,Option.getD_some] at he
    rw[<-hqe,q1t R how fs hq] at he
    have:q=i:=by omega
    subst this
    exact⟨_,ha,fun _ _=>hr,hqe.symm⟩
   ·rintro⟨a,ha,hcn,he⟩
    unfold q3j at ha
    rw[if_neg k] at ha
    obtain⟨t,ht,h⟩:=List.mem_filterMap.1 ha
    unfold j4a at h
    split at h
    ·rename_i h1
     simp only[Option.some.injEq] at h
     subst h
     have hr:=hcn h2 (j2c R ht)
     obtain⟨j,hj,rfl⟩:=List.getElem_of_mem ht
     refine⟨j,(hL _).2 ⟨j,hj,rfl,by rw[<-I3];exact h1.2,hr⟩,?_⟩
     simp only[f,Int.toNat_natCast,List.getD_eq_getElem?_getD,List.getElem?_eq_getElem hj,Option.getD_some]
     have he:(mOf g.Types[j] c.Method).1=(g.Funcs[i]).Name:=he
     rw[he];exact q1t R how fs hi
    ·simp at h
end
structure v7v(g:q7c)(how:Int)(fs:List Tx)(sp:q5c):Prop where
 fl:sp.funcs.length=g.Funcs.length
 ml:sp.made.length=g.Types.length
 f:∀i:Nat,∀h:i<g.Funcs.length,tru sp.funcs i<->RN g how (onF fs) false (g.Funcs[i]).Name
 m:∀i:Nat,∀h:i<g.Types.length,tru sp.made i<->RN g how (onF fs) true (g.Types[i]).Name
section
variable{g:q7c}{how:Int}{fs:List Tx}{sp:q5c}
theorem v8y(F:Nat)(R:q0h g)(hh:how=1\/how=2)(hF:10000<=F):∃sp,M89 F (wOf g how fs) (-1)=some (some sp)/\v7v g how fs sp:=by
 obtain⟨sp,s1,s2,s3,s4,s5⟩:=j3y (wok (F:=F) (by omega) R how fs) hF
 refine⟨sp,s1,s2,s3,fun i h=>?_,fun i h=>?_⟩
 ·rw[s4,<-j6y (F:=F) (by omega) R hh fs h]
  exact⟨fun q=>q.2,fun q=>⟨h,q⟩⟩
 ·rw[s5,<-w3m (F:=F) (by omega) R hh fs h]
  exact⟨fun q=>q.2,fun q=>⟨h,q⟩⟩
theorem v6i(hh:how=1\/how=2):(wOf g how fs).made=(how==2):=by
 unfold wOf;rcases hh with h|h<;>subst h<;>rfl
theorem w1r(F:Nat)(hF:1000<=F)(R:q0h g)(hh:how=1\/how=2)(S:v7v g how fs sp){x:q5e}(hx:x∈g.Funcs){c:q6c}(hc:c∈x.Calls):
  ∃l,TgC g how fs c l/\∀(T:Type) (k k':List Int->Option T),(∀l,k' l=k l)->(if (wOf g how fs).made=true then (M92 F (wOf g how fs) c sp.made).bind k else (j0h F (wOf g how fs) c).bind k')=k l:=by
 rcases hh with h|h
 ·obtain⟨l,e,T⟩:=w3v (how:=how) (fs:=fs) F hF R h hx hc
  refine⟨l,T,fun T k k' hk=>?_⟩
  rw[v6i (.inl h),if_neg (by rw[h];decide),e,Option.bind_some,hk]
 ·obtain⟨l,e,T⟩:=w1k (how:=how) (fs:=fs) F hF R (by omega) S.ml S.m hx hc
  refine⟨l,T,fun T k k' hk=>?_⟩
  rw[v6i (.inr h),if_pos (by rw[h];decide),e,Option.bind_some]
structure RBk(N b:Nat)(P:Nat->Nat->Prop)(rows:List (List Int)):Prop where
 len:rows.length=N
 row:∀v r,rows[v]? = some r->r.length<=b/\∀x:Int,x∈r<->∃i:Nat,x=(i:Int)/\P v i
theorem RBk.weak{N b b':Nat}{P P':Nat->Nat->Prop}{rows:List (List Int)}(h:RBk N b P rows)(hb:b<=b')(hp:∀v,v<N->∀i,P v i<->P' v i):RBk N b' P' rows:=
 ⟨h.len,fun v r hr=>⟨Nat.le_trans (h.row v r hr).1 hb,fun x=>by
  have hv:v<N:=by rw[<-h.len];exact(List.getElem?_eq_some_iff.1 hr).1
  rw[(h.row v r hr).2]
  exact⟨fun⟨i,e,q⟩=>⟨i,e,(hp v hv i).1 q⟩,fun⟨i,e,q⟩=>⟨i,e,(hp v hv i).2 q⟩⟩⟩⟩
theorem v5d{N m:Nat}(F:Nat)(k:List (List Int)->Option (List Int)):∀(l:List Int) (rows:List (List Int)) (b:Nat) (P:Nat->Nat->Prop),RBk N b P rows->(∀v,v∈l->∃i:Nat,i<N/\v=i)->b+l.length<=1000000000->
  ∃rows',z3r F (m:Int) k l rows=k rows'/\RBk N (b+l.length) (fun v i=>P v i\/((v:Int)∈l/\i=m)) rows'
 |[],rows,b,P,h,_,_=>⟨rows,rfl,h.weak (by simp) (by simp)⟩
 |x::l,rows,b,P,h,hl,hb=>by
  simp only[List.length_cons] at hb
  obtain⟨i,hi,rfl⟩:=hl x (by simp)
  have hi':i<rows.length:=by rw[h.len];exact hi
  have hr:=h.row i rows[i] (List.getElem?_eq_getElem hi')
  have h2:RBk N (b+1) (fun v j=>P v j\/(v=i/\j=m)) (rows.set i (rows[i]++[(m:Int)])):=by
   refine⟨by simp[h.len],fun v r hv=>?_⟩
   rw[List.getElem?_set] at hv
   by_cases e:i=v
   ·subst e
    rw[if_pos rfl,if_pos hi'] at hv
    simp only[Option.some.injEq] at hv
    subst hv
    refine⟨by simp;omega,fun x=>?_⟩
    rw[List.mem_append,hr.2,List.mem_singleton]
    constructor
    ·rintro(⟨j,e,q⟩|e)
     ·exact⟨j,e,.inl q⟩
     ·exact⟨m,e,.inr ⟨rfl,rfl⟩⟩
    ·rintro⟨j,e,q|⟨_,q⟩⟩
     ·exact .inl ⟨j,e,q⟩
     ·exact .inr (by rw[e,q])
   ·rw[if_neg e] at hv
    have:=h.row v r hv
    refine⟨by omega,fun x=>?_⟩
    rw[this.2]
    constructor
    ·rintro⟨j,e',q⟩;exact⟨j,e',.inl q⟩
    ·rintro⟨j,e',q|⟨q,_⟩⟩
     ·exact⟨j,e',q⟩
     ·exact absurd q.symm e
  obtain⟨rows',e,h3⟩:=v5d F k l _ _ _ h2 (fun v hv=>hl v (List.mem_cons_of_mem _ hv)) (by omega)
  refine⟨rows',?_,h3.weak (by simp;omega) fun v _ j=>?_⟩
  ·rw[z3r,q2h hi',Option.bind_some,if_pos (by simp;omega),Int.toNat_natCast,e]
  ·simp only[List.mem_cons]
   constructor
   ·rintro((q|⟨q,q'⟩)|⟨q,q'⟩)
    ·exact .inl q
    ·exact .inr ⟨.inl (by rw[q]),q'⟩
    ·exact .inr ⟨.inr q,q'⟩
   ·rintro(q|⟨q|q,q'⟩)
    ·exact .inl (.inl q)
    ·exact .inl (.inr ⟨by omega,q'⟩)
    ·exact .inr ⟨q,q'⟩
theorem v4d(F:Nat)(n:Int)(k:List (List Int)->Option (List Int)):∀(l:List Int) (rows:List (List Int)),j6g F n k l rows=z3r F n k l rows
 |[],rows=>rfl
 |x::l,rows=>by
  rw[j6g,z3r]
  refine congrArg _ (funext fun y=>?_)
  split
  ·exact v4d F n k l _
  ·rfl
theorem j7g{m:Nat}(F:Nat)(hF:1000<=F)(R:q0h g)(hh:how=1\/how=2)(S:v7v g how fs sp){x:q5e}(hx:x∈g.Funcs)(k:List (List Int)->Option (List Int)):∀(l:List q6c) (rows:List (List Int)) (b:Nat) (P:Nat->Nat->Prop),RBk g.Funcs.length b P rows->(∀c,c∈l->c∈x.Calls)->b+500*l.length<=1000000000->
  ∃rows',z5w F (wOf g how fs) sp (m:Int) k l rows=k rows'/\RBk g.Funcs.length (b+500*l.length) (fun v i=>P v i\/(i=m/\∃c,c∈l/\onF fs c.Feature=true/\∃h:v<g.Funcs.length,gd g how fs c (g.Funcs[v]).Name)) rows'
 |[],rows,b,P,h,_,_=>⟨rows,rfl,h.weak (by simp) (by simp)⟩
 |c::l,rows,b,P,h,hl,hb=>by
  simp only[List.length_cons] at hb
  rw[z5w]
  simp only[q2e]
  have hon:(q6b (wOf g how fs).on c.Feature).getD false=onF fs c.Feature:=j7n g how fs c.Feature
  rw[hon]
  by_cases ho:onF fs c.Feature=true
  ·rw[if_pos ho]
   obtain⟨tl,T,e⟩:=w1r F hF R hh S hx (hl c (by simp))
   rw[e _ _ _ (fun l'=>v4d F (m:Int) _ l' rows)]
   obtain⟨r1,e1,h1⟩:=v5d (m:=m) F (fun l=>z5w F (wOf g how fs) sp (m:Int) k ‹_› l) tl rows b P h T.nat (by have:=T.len;omega)
   rw[e1]
   obtain⟨r2,e2,h2⟩:=j7g F hF R hh S hx k l r1 _ _ (h1.weak (b':=b+500) (by have:=T.len;omega) (fun _ _ _=>Iff.rfl)) (fun c hc=>hl c (List.mem_cons_of_mem _ hc)) (by omega)
   refine⟨r2,e2,h2.weak (by simp;omega) fun v hv i=>?_⟩
   simp only[List.mem_cons]
   constructor
   ·rintro((q|⟨q,q'⟩)|⟨q,c',q1,q2⟩)
    ·exact .inl q
    ·exact .inr ⟨q',c,.inl rfl,ho,hv,(T.mem v hv).1 q⟩
    ·exact .inr ⟨q,c',.inr q1,q2⟩
   ·rintro(q|⟨q,c',rfl|q1,q2,q3⟩)
    ·exact .inl (.inl q)
    ·exact .inl (.inr ⟨(T.mem v hv).2 q3.2,q⟩)
    ·exact .inr ⟨q,c',q1,q2,q3⟩
  ·rw[if_neg ho]
   obtain⟨r2,e2,h2⟩:=j7g F hF R hh S hx k l rows b P h (fun c hc=>hl c (List.mem_cons_of_mem _ hc)) (by omega)
   refine⟨r2,e2,h2.weak (by simp;omega) fun v hv i=>?_⟩
   simp only[List.mem_cons]
   constructor
   ·rintro(q|⟨q,c',q1,q2⟩)
    ·exact .inl q
    ·exact .inr ⟨q,c',.inr q1,q2⟩
   ·rintro(q|⟨q,c',rfl|q1,q2,q3⟩)
    ·exact .inl q
    ·exact absurd q2 ho
    ·exact .inr ⟨q,c',q1,q2,q3⟩
def Ed(g:q7c)(how:Int)(fs:List Tx)(x y:Tx):Prop:=RN g how (onF fs) false x/\∃f,f∈g.Funcs/\f.Name=x/\∃c,c∈f.Calls/\onF fs c.Feature=true/\gd g how fs c y
theorem j8g(F:Nat)(hF:1000<=F)(R:q0h g)(hh:how=1\/how=2)(S:v7v g how fs sp)(k:List (List Int)->Option (List Int)):∀(l:List q5e) (n:Nat) (rows:List (List Int)) (b:Nat) (P:Nat->Nat->Prop),g.Funcs.drop n=l->RBk g.Funcs.length b P rows->b+100000*l.length<=1000000000->
  ∃rows',z6w F (wOf g how fs) sp k l (n:Int) rows=k rows'/\RBk g.Funcs.length (b+100000*l.length) (fun v i=>P v i\/∃hv:v<g.Funcs.length,∃hi:i<g.Funcs.length,n<=i/\Ed g how fs (g.Funcs[i]).Name (g.Funcs[v]).Name) rows'
 |[],n,rows,b,P,hd,h,_=>⟨rows,rfl,h.weak (by simp) fun v hv i=>by
   have:g.Funcs.length<=n:=by simpa using hd
   constructor
   ·exact .inl
   ·rintro(q|⟨_,hi,hn,_⟩)
    ·exact q
    ·omega⟩
 |x::l,n,rows,b,P,hd,h,hb=>by
  simp only[List.length_cons] at hb
  have hn:n<g.Funcs.length:=by
   apply Classical.byContradiction
   intro q
   rw[List.drop_eq_nil_of_le (by omega)] at hd;simp at hd
  have hx:g.Funcs[n]=x/\g.Funcs.drop (n+1)=l:=by
   rw[List.drop_eq_getElem_cons hn] at hd
   exact⟨(List.cons.inj hd).1,(List.cons.inj hd).2⟩
  obtain⟨rfl,hd2⟩:=hx
  have hfl:n<sp.funcs.length:=by rw[S.fl];exact hn
  have hRi:=R.f _ (List.getElem_mem hn)
  have hedge:∀v (hv:v<g.Funcs.length),(Ed g how fs (g.Funcs[n]).Name (g.Funcs[v]).Name<->RN g how (onF fs) false (g.Funcs[n]).Name/\∃c,c∈(g.Funcs[n]).Calls/\onF fs c.Feature=true/\gd g how fs c (g.Funcs[v]).Name):=by
   intro v hv
   constructor
   ·rintro⟨h1,f,hf,he,c,hc⟩
    have e1:=q1w (f:=q5e.Name) R.fsrt hf
    have e2:=z1e R hn
    rw[he,e2] at e1
    obtain rfl:=Option.some.inj e1
    exact⟨h1,c,hc⟩
   ·rintro⟨h1,c,hc⟩
    exact⟨h1,_,List.getElem_mem hn,rfl,c,hc⟩
  rw[z6w]
  simp only[q2e]
  rw[q2h hfl,Option.bind_some]
  have htru:tru sp.funcs n<->sp.funcs[n]=true:=by unfold tru;rw[List.getElem?_eq_getElem hfl];simp
  rw[show((n:Int)+1)=((n+1:Nat):Int) by omega]
  cases hb2:sp.funcs[n] with
  |false=>
   rw[if_pos (by simp)]
   obtain⟨r2,e2,h2⟩:=j8g F hF R hh S k l (n+1) rows b P hd2 h (by omega)
   refine⟨r2,e2,h2.weak (by simp;omega) fun v hv i=>?_⟩
   have hno:¬RN g how (onF fs) false (g.Funcs[n]).Name:=fun q=>by
    have:=htru.1 ((S.f n hn).2 q)
    rw[hb2] at this;simp at this
   constructor
   ·rintro(q|⟨q1,q2,q3,q4⟩)
    ·exact .inl q
    ·exact .inr ⟨q1,q2,by omega,q4⟩
   ·rintro(q|⟨q1,q2,q3,q4⟩)
    ·exact .inl q
    ·by_cases e:i=n
     ·subst e;exact absurd q4.1 hno
     ·exact .inr ⟨q1,q2,by omega,q4⟩
  |true=>
   rw[if_neg (by simp)]
   have hyes:RN g how (onF fs) false (g.Funcs[n]).Name:=(S.f n hn).1 (htru.2 hb2)
   obtain⟨r1,e1,h1⟩:=j7g (m:=n) F hF R hh S (List.getElem_mem hn) (fun l13=>z6w F (wOf g how fs) sp k l ((n+1:Nat):Int) l13) (g.Funcs[n]).Calls rows b P h (fun c hc=>hc) (by have:=hRi.len;omega)
   rw[e1]
   obtain⟨r2,e2,h2⟩:=j8g F hF R hh S k l (n+1) r1 (b+100000) _ hd2 (h1.weak (by have:=hRi.len;omega) (fun _ _ _=>Iff.rfl)) (by omega)
   refine⟨r2,e2,h2.weak (by simp;omega) fun v hv i=>?_⟩
   constructor
   ·rintro((q|⟨rfl,c,q1,q2,_,q3⟩)|⟨q1,q2,q3,q4⟩)
    ·exact .inl q
    ·exact .inr ⟨hv,hn,Nat.le_refl _,(hedge v hv).2 ⟨hyes,c,q1,q2,q3⟩⟩
    ·exact .inr ⟨q1,q2,by omega,q4⟩
   ·rintro(q|⟨q1,q2,q3,q4⟩)
    ·exact .inl (.inl q)
    ·by_cases e:i=n
     ·subst e
      obtain⟨_,c,r1,r2,r3⟩:=(hedge v hv).1 q4
      exact .inl (.inr ⟨rfl,c,r1,r2,hv,r3⟩)
     ·exact .inr ⟨q1,q2,by omega,q4⟩
end
inductive Wk{α:Type}(E:α->α->Prop)(t:α):Nat->α->Prop
 |z:Wk E t 0 t
 |s {n:Nat} {x y:α} (h:E x y) (w:Wk E t n y):Wk E t (n+1) x
def Ds{α:Type}(E:α->α->Prop)(t:α)(n:Nat)(x:α):Prop:=Wk E t n x/\∀m,m<n->¬Wk E t m x
section
variable{α:Type}{E:α->α->Prop}{t:α}
theorem Ds.uniq{n m:Nat}{x:α}(h:Ds E t n x)(h':Ds E t m x):n=m:=by
 rcases Nat.lt_trichotomy n m with q|q|q
 ·exact absurd h.1 (h'.2 n q)
 ·exact q
 ·exact absurd h'.1 (h.2 m q)
theorem Wk.least{x:α}:∀{n:Nat},Wk E t n x->∃m,m<=n/\Ds E t m x:=by
 intro n
 induction n using Nat.strongRecOn with
 |ind n ih=>
  intro h
  by_cases q:∃m,m<n/\Wk E t m x
  ·obtain⟨m,hm,w⟩:=q
   obtain⟨k,hk,d⟩:=ih m hm w
   exact⟨k,by omega,d⟩
  ·exact⟨n,Nat.le_refl _,h,fun m hm w=>q ⟨m,hm,w⟩⟩
theorem Ds.zero{x:α}:Ds E t 0 x<->x=t:=by
 constructor
 ·rintro⟨h,_⟩;cases h;rfl
 ·rintro rfl;exact⟨.z,fun m h=>absurd h (Nat.not_lt_zero _)⟩
theorem Ds.succ{n:Nat}{x:α}(h:Ds E t (n+1) x):∃y,E x y/\Ds E t n y:=by
 obtain⟨w,hm⟩:=h
 cases w with
 |s e w=>
  rename_i y
  refine⟨y,e,w,fun m hlt w'=>hm (m+1) (by omega) (.s e w')⟩
theorem Ds.down{x:α}:∀{n:Nat},Ds E t n x->∀m,m<=n->∃y,Ds E t m y:=by
 intro n
 induction n generalizing x with
 |zero=>intro h m hm;obtain rfl:m=0:=(by omega);exact⟨x,h⟩
 |succ n ih=>
  intro h m hm
  by_cases q:m=n+1
  ·subst q;exact⟨x,h⟩
  ·obtain⟨y,_,d⟩:=h.succ
   exact ih d m (by omega)
end
def neg(out:List Int):Nat:=out.countP fun v=>decide (v<0)
theorem w8a{out:List Int}{i:Nat}(hi:i<out.length)(h:out[i]<0){v:Int}(hv:0<=v):neg (out.set i v)+1=neg out:=by
 unfold neg
 rw[List.countP_set hi,if_pos (by simpa using h),if_neg (by simp;omega)]
 have:0<out.countP fun v=>decide (v<0):=List.countP_pos_iff.2 ⟨_,List.getElem_mem hi,by simpa using h⟩
 omega
def nI(l:List Nat):List Int:=l.map fun n:Nat=>(n:Int)
theorem j5g(F:Nat)(v d:Nat)(hd:d<=100000)(k:List Int->List Int->Option (List Int)):∀(l:List Int) (out q:List Int),out[v]? = some (d:Int)->(∀x,x∈l->∃i:Nat,i<out.length/\x=(i:Int))->q.length+neg out<=100000->
  ∃out' add,z4w F (v:Int) k l out q=k out' (q++nI add)/\out'.length=out.length/\add.length+neg out'=neg out/\
   (∀i:Nat,out'[i]? = (out[i]?).map fun u=>if u<0/\(i:Int)∈l then ((d+1:Nat):Int) else u)/\∀i:Nat,i∈add<->(i:Int)∈l/\∃u,out[i]? = some u/\u<0
 |[],out,q,h,_,_=>⟨out,[],by simp[z4w,nI],rfl,by simp,fun i=>by simp,by simp⟩
 |x::l,out,q,h,hl,hb=>by
  obtain⟨i,hi,rfl⟩:=hl x (by simp)
  have hv:v<out.length:=(List.getElem?_eq_some_iff.1 h).1
  have hvv:out[v]=(d:Int):=(List.getElem?_eq_some_iff.1 h).2
  rw[z4w,q2h hi,Option.bind_some]
  simp only[q2e]
  by_cases hn:out[i]<0
  ·have hc:0<neg out:=List.countP_pos_iff.2 ⟨_,List.getElem_mem hi,by simpa using hn⟩
   have hvi:i≠v:=fun e=>by subst e;omega
   rw[if_pos (by simpa using hn),q2h hv,Option.bind_some,Option.bind_some,if_pos (by simp;omega),hvv,Int.toNat_natCast]
   have hw:w64 ((d:Int)+1)=((d+1:Nat):Int):=by rw[q9w (by omega) (by omega)];omega
   rw[hw]
   have hs:=w8a hi hn (v:=((d+1:Nat):Int)) (by omega)
   obtain⟨out',add,e,h1,h2,h3,h4⟩:=j5g F v d hd k l (out.set i ((d+1:Nat):Int)) (q++[(i:Int)]) (by rw[List.getElem?_set,if_neg hvi];exact h) (fun x hx=>by simpa using hl x (List.mem_cons_of_mem _ hx)) (by rw[List.length_append];simp only[List.length_cons,List.length_nil];omega)
   refine⟨out',i::add,?_,by simpa using h1,by simp;omega,fun j=>?_,fun j=>?_⟩
   ·rw[e];simp[nI]
   ·rw[h3,List.getElem?_set]
    by_cases e:i=j
    ·subst e
     rw[if_pos rfl,if_pos hi,List.getElem?_eq_getElem hi,Option.map_some,Option.map_some,if_neg (by omega),if_pos ⟨hn,by simp⟩]
    ·rw[if_neg e]
     refine congrArg (fun f=>Option.map f out[j]?) (funext fun u=>?_)
     have:((j:Int)∈(i:Int)::l)<->(j:Int)∈l:=by rw[List.mem_cons];exact⟨fun q=>q.resolve_left (by omega),.inr⟩
     simp only[this]
   ·rw[List.mem_cons,h4,List.getElem?_set]
    constructor
    ·rintro(rfl|⟨q1,u,q2,q3⟩)
     ·exact⟨by simp,_,List.getElem?_eq_getElem hi,hn⟩
     ·by_cases e:i=j
      ·rw[if_pos e,if_pos (by omega)] at q2
       simp only[Option.some.injEq] at q2
       omega
      ·rw[if_neg e] at q2
       exact⟨List.mem_cons_of_mem _ q1,u,q2,q3⟩
    ·rintro⟨q1,u,q2,q3⟩
     by_cases e:i=j
     ·exact .inl e.symm
     ·rw[if_neg e]
      refine .inr ⟨(List.mem_cons.1 q1).resolve_left (by omega),u,q2,q3⟩
  ·rw[if_neg (by simpa using hn)]
   obtain⟨out',add,e,h1,h2,h3,h4⟩:=j5g F v d hd k l out q h (fun x hx=>hl x (List.mem_cons_of_mem _ hx)) hb
   refine⟨out',add,e,h1,h2,fun j=>?_,fun j=>?_⟩
   ·rw[h3]
    by_cases e:j=i
    ·subst e
     rw[List.getElem?_eq_getElem hi,Option.map_some,Option.map_some,if_neg (fun q=>hn q.1),if_neg (fun q=>hn q.1)]
    ·refine congrArg (fun f=>Option.map f out[j]?) (funext fun u=>?_)
     have:((j:Int)∈(i:Int)::l)<->(j:Int)∈l:=by rw[List.mem_cons];exact⟨fun q=>q.resolve_left (by omega),.inr⟩
     simp only[this]
   ·rw[h4,List.mem_cons]
    constructor
    ·rintro⟨q1,q2⟩;exact⟨.inr q1,q2⟩
    ·rintro⟨q1|q1,u,q2,q3⟩
     ·obtain rfl:j=i:=by omega
      rw[List.getElem?_eq_getElem hi] at q2
      simp only[Option.some.injEq] at q2
      omega
     ·exact⟨q1,u,q2,q3⟩
structure w4i(N:Nat)(E:Nat->Nat->Prop)(t:Nat)(out:List Int)(a b:List Nat)(k:Nat):Prop where
 len:out.length=N
 val:∀i v,out[i]? = some v->v = -1\/∃n:Nat,v=(n:Int)/\n<=k+1/\Ds E t n i
 low:∀i n,n<=k->Ds E t n i->out[i]? = some (n:Int)
 nxt:∀u,Ds E t (k+1) u->out[u]? = some ((k+1:Nat):Int)\/∃v,v∈a/\E u v/\Ds E t k v
 am:∀v,v∈a->Ds E t k v
 bm:∀v,v∈b<->out[v]? = some ((k+1:Nat):Int)
theorem w4i.next{N:Nat}{E:Nat->Nat->Prop}{t:Nat}{out:List Int}{b:List Nat}{k:Nat}(I:w4i N E t out [] b k):w4i N E t out b [] (k+1) where
 len:=I.len
 val i v h:=by
  rcases I.val i v h with q|⟨n,q1,q2,q3⟩
  ·exact .inl q
  ·exact .inr ⟨n,q1,by omega,q3⟩
 low i n hn d:=by
  by_cases e:n=k+1
  ·subst e
   rcases I.nxt i d with q|⟨v,hv,_⟩
   ·exact q
   ·simp at hv
  ·exact I.low i n (by omega) d
 nxt u d:=by
  obtain⟨v,e,dv⟩:=d.succ
  rcases I.nxt v dv with q|⟨w,hw,_⟩
  ·exact .inr ⟨v,(I.bm v).2 q,e,dv⟩
  ·simp at hw
 am v hv:=by
  rcases I.val v _ ((I.bm v).1 hv) with q|⟨n,q1,q2,q3⟩
  ·omega
  ·obtain rfl:n=k+1:=by omega
   exact q3
 bm v:=by
  constructor
  ·intro h;simp at h
  ·intro h
   rcases I.val v _ h with q|⟨n,q1,q2,q3⟩<;>omega
theorem w4i.done{N:Nat}{E:Nat->Nat->Prop}{t:Nat}{out:List Int}{k:Nat}(I:w4i N E t out [] [] k)(i:Nat)(h:i<out.length):(∃n:Nat,out[i]=(n:Int)/\n<=k+1/\Ds E t n i)\/(out[i] = -1/\∀n,¬Wk E t n i):=by
 rcases I.val i _ (List.getElem?_eq_getElem h) with q|⟨n,q1,q2,q3⟩
 ·refine .inr ⟨q,fun n w=>?_⟩
  obtain⟨m,_,d⟩:=w.least
  by_cases hm:m<=k
  ·have:=I.low i m hm d
   rw[List.getElem?_eq_getElem h] at this
   simp only[Option.some.injEq] at this
   omega
  ·obtain⟨y,dy⟩:=d.down (k+1) (by omega)
   rcases I.nxt y dy with p|⟨v,hv,_⟩
   ·have:=(I.bm y).2 p;simp at this
   ·simp at hv
 ·exact .inl ⟨n,q1,q2,q3⟩
theorem w4i.step{N:Nat}{E:Nat->Nat->Prop}{t:Nat}{out out':List Int}{v:Nat}{a b add:List Nat}{k:Nat}{r:List Int}(I:w4i N E t out (v::a) b k)(hr:∀x:Int,x∈r<->∃i:Nat,x=(i:Int)/\E i v)(hE:∀i j,E i j->i<N)
  (h1:out'.length=out.length) (h3:∀i:Nat,out'[i]? = (out[i]?).map fun u=>if u<0/\(i:Int)∈r then ((k+1:Nat):Int) else u) (h4:∀i:Nat,i∈add<->(i:Int)∈r/\∃u,out[i]? = some u/\u<0):w4i N E t out' a (b++add) k:=by
 have hmem:∀i:Nat,(i:Int)∈r<->E i v:=fun i=>by
  rw[hr]
  exact⟨fun⟨j,e,q⟩=>by obtain rfl:i=j:=(by omega);exact q,fun q=>⟨i,rfl,q⟩⟩
 have hdv:=I.am v (by simp)
 have hkeep:∀i:Nat,∀n:Nat,out[i]? = some (n:Int)->out'[i]? = some (n:Int):=fun i n h=>by
  rw[h3,h,Option.map_some,if_neg (by omega)]
 have hset:∀i:Nat,E i v->∀u,out[i]? = some u->u<0->Ds E t (k+1) i:=fun i e u hu hn=>by
  refine⟨.s e hdv.1,fun m hm w=>?_⟩
  obtain⟨n,hn2,d⟩:=w.least
  have:=I.low i n (by omega) d
  rw[hu] at this
  simp only[Option.some.injEq] at this
  omega
 refine⟨h1.trans I.len,fun i w h=>?_,fun i n hn d=>hkeep i n (I.low i n hn d),fun u d=>?_,fun x hx=>I.am x (List.mem_cons_of_mem _ hx),fun x=>?_⟩
 ·rw[h3] at h
  obtain⟨u,hu,e⟩:=Option.map_eq_some_iff.1 h
  split at e
  ·rename_i hc
   exact .inr ⟨k+1,e.symm,Nat.le_refl _,hset i ((hmem i).1 hc.2) u hu hc.1⟩
  ·subst e;exact I.val i u hu
 ·rcases I.nxt u d with q|⟨w,hw,e,dw⟩
  ·exact .inl (hkeep u (k+1) q)
  ·rcases List.mem_cons.1 hw with rfl|hw
   ·left
    have hu:u<out.length:=by rw[I.len];exact hE u w e
    rw[h3,List.getElem?_eq_getElem hu,Option.map_some]
    by_cases hn:out[u]<0
    ·rw[if_pos ⟨hn,(hmem u).2 e⟩]
    ·rw[if_neg (fun q=>hn q.1)]
     rcases I.val u _ (List.getElem?_eq_getElem hu) with q|⟨n,q1,q2,q3⟩
     ·omega
     ·rw[q1,q3.uniq d]
   ·exact .inr ⟨w,hw,e,dw⟩
 ·rw[List.mem_append,I.bm,h4,h3]
  constructor
  ·rintro(q|⟨q1,u,q2,q3⟩)
   ·rw[q,Option.map_some,if_neg (by omega)]
   ·rw[q2,Option.map_some,if_pos ⟨q3,q1⟩]
  ·intro h
   obtain⟨u,hu,e⟩:=Option.map_eq_some_iff.1 h
   split at e
   ·rename_i hc;exact .inr ⟨hc.2,u,hu,hc.1⟩
   ·subst e;exact .inl hu
theorem v2d(F:Nat){N:Nat}{E:Nat->Nat->Prop}{t:Nat}(hN:N<=3000)(hE:∀i j,E i j->i<N)(rows:List (List Int))(hlen:rows.length=N)(hrow:∀v r,rows[v]? = some r->∀x:Int,x∈r<->∃i:Nat,x=(i:Int)/\E i v)(kk:List Int->Option (List Int))(hdN:∀i n,Ds E t n i->i<N):
  ∀(n:Nat) (out:List Int) (a b:List Nat) (k:Nat),w4i N E t out a b k->a.length+b.length+neg out<n->k+(a.length+b.length+neg out)<=N->(a=[]->k+1+(a.length+b.length+neg out)<=N)->
  ∃out',z1f F rows kk n out (nI (a++b))=kk out'/\out'.length=N/\∀i (h:i<out'.length),(∃n:Nat,out'[i]=(n:Int)/\n<=3001/\Ds E t n i)\/(out'[i] = -1/\∀n,¬Wk E t n i)
 |0,out,a,b,k,I,hn,_,_=>absurd hn (Nat.not_lt_zero _)
 |n+1,out,a0,b0,k0,I0,hn0,h10,h20=>by
  -- what is next, and its level
  by_cases he:a0=[]/\b0=[]
  ·obtain⟨rfl,rfl⟩:=he
   exact⟨out,by rw[z1f,if_neg (by simp[nI])],I0.len,fun i h=>(I0.done i h).imp (fun⟨n,q1,q2,q3⟩=>⟨n,q1,by omega,q3⟩) id⟩
  ·have key:∃v a b k,a0++b0=v::(a++b)/\w4i N E t out (v::a) b k/\a0.length+b0.length=a.length+b.length+1/\k+(a.length+b.length+1+neg out)<=N:=by
    cases a0 with
    |nil=>
     cases b0 with
     |nil=>exact absurd ⟨rfl,rfl⟩ he
     |cons v b=>
      have:=h20 rfl
      simp only[List.length_cons,List.length_nil] at this
      exact⟨v,b,[],k0+1,by simp,I0.next,by simp,by simp;omega⟩
    |cons v a=>
     simp only[List.length_cons] at h10
     exact⟨v,a,b0,k0,by simp,I0,by simp;omega,by omega⟩
   obtain⟨v,a,b,k,e1,I,e2,h1⟩:=key
   have hdv:=I.am v (by simp)
   have hv:v<N:=hdN v k hdv
   have hv':v<rows.length:=by rw[hlen];exact hv
   have hr:=hrow v rows[v] (List.getElem?_eq_getElem hv')
   rw[e1,z1f,if_pos (by simp[nI];omega)]
   simp only[q2e]
   have i0:idx (nI (v::(a++b))) 0=some (v:Int):=q2h (xs:=nI (v::(a++b))) (j:=0) (by simp[nI])
   rw[i0,Option.bind_some,if_pos (by simp[nI]),q2h hv',Option.bind_some]
   have hdrop:(nI (v::(a++b))).drop 1=nI (a++b):=by simp[nI]
   rw[hdrop]
   obtain⟨out',add,e,g1,g2,g3,g4⟩:=j5g F v k (by omega) (fun l95 l96=>z1f F rows kk n l95 l96) rows[v] out (nI (a++b)) (I.low v k (Nat.le_refl _) hdv) (fun x hx=>by
    obtain⟨i,rfl,q⟩:=(hr x).1 hx
    exact⟨i,by rw[I.len];exact hE i v q,rfl⟩) (by simp[nI];omega)
   rw[e]
   have I2:=I.step hr hE g1 g3 g4
   have hq:nI (a++b)++nI add=nI (a++(b++add)):=by simp[nI]
   rw[hq]
   exact v2d F hN hE rows hlen hrow kk hdN n out' a (b++add) k I2 (by simp;omega) (by simp;omega) (fun _=>by simp;omega)
theorem v3d(F:Nat)(k:List Int->Option (List Int)):∀(m n:Nat) (l:List Int),n+m=l.length->(∀i,i<n->l[i]? = some (-1))->z2r F k m (n:Int) l=k (List.replicate l.length (-1))
 |0,n,l,h,hl=>by
  rw[z2r]
  refine congrArg k (List.ext_getElem? fun i=>?_)
  by_cases hi:i<l.length
  ·rw[hl i (by omega),List.getElem?_replicate,if_pos hi]
  ·rw[List.getElem?_eq_none (by omega),List.getElem?_eq_none (by simp;omega)]
 |m+1,n,l,h,hl=>by
  have hn:n<l.length:=by omega
  rw[z2r,q2h hn,Option.bind_some,Int.toNat_natCast,show(n:Int)+1=((n+1:Nat):Int) by omega,v3d F k m (n+1) _ (by simp;omega) fun i hi=>?_]
  ·simp
  ·rw[List.getElem?_set]
   by_cases e:n=i
   ·rw[if_pos e,if_pos hn]
   ·rw[if_neg e];exact hl i (by omega)
section
variable{g:q7c}{how:Int}{fs:List Tx}{sp:q5c}
def Ei(g:q7c)(how:Int)(fs:List Tx)(i j:Nat):Prop:=∃hj:j<g.Funcs.length,∃hi:i<g.Funcs.length,Ed g how fs (g.Funcs[i]).Name (g.Funcs[j]).Name
def w7g(g:q7c)(how:Int)(fs:List Tx)(t:Nat)(d:List Int):Prop:=d.length=g.Funcs.length/\∀i (h:i<d.length),(∃n:Nat,d[i]=(n:Int)/\n<=3001/\Ds (Ei g how fs) t n i)\/(d[i] = -1/\∀n,¬Wk (Ei g how fs) t n i)
theorem M94_ok(F:Nat)(hF:10000<=F)(R:q0h g)(hh:how=1\/how=2)(S:v7v g how fs sp){t:Nat}(ht:t<g.Funcs.length):∃d,M94 F (wOf g how fs) sp (t:Int)=some d/\w7g g how fs t d:=by
 have hfl:=R.fl
 have hwg:(wOf g how fs).g=g:=rfl
 unfold M94
 have c2:0<=((g.Funcs.length:Nat):Int)/\((8:Nat):Int)*((g.Funcs.length:Nat):Int)<=140737488355328/\((g.Funcs.length:Nat):Int)<=140737488355328:=by omega
 rw[hwg,if_pos (by omega)]
 simp only[q2e,if_pos c2]
 have hrep:RBk g.Funcs.length 0 (fun _ _=>False) (List.replicate ((g.Funcs.length:Nat):Int).toNat ([]:List Int)):=by
  refine⟨by simp,fun v r h=>?_⟩
  rw[List.getElem?_replicate] at h
  split at h
  ·simp only[Option.some.injEq] at h;subst h;simp
  ·simp at h
 obtain⟨rows,e1,h1⟩:=j8g F (by omega) R hh S (fun l6=>z2r F (fun l68=>(idx l68 (t:Int)).bind fun x77=>z1f F l6 (fun l80=>some l80) F (l68.set (t:Int).toNat 0) [(t:Int)]) ((((List.replicate ((g.Funcs.length:Nat):Int).toNat (0:Int)).length:Nat):Int).toNat) 0 (List.replicate ((g.Funcs.length:Nat):Int).toNat (0:Int))) g.Funcs 0 _ 0 (fun _ _=>False) rfl hrep (by omega)
 have e1':=e1
 rw[show((0:Nat):Int)=0 from rfl] at e1'
 rw[e1']
 have e2:=v3d F (fun l68=>(idx l68 (t:Int)).bind fun x77=>z1f F rows (fun l80=>some l80) F (l68.set (t:Int).toNat 0) [(t:Int)]) ((((List.replicate ((g.Funcs.length:Nat):Int).toNat (0:Int)).length:Nat):Int).toNat) 0 (List.replicate ((g.Funcs.length:Nat):Int).toNat (0:Int)) (by simp) (fun i hi=>absurd hi (Nat.not_lt_zero _))
 rw[show((0:Nat):Int)=0 from rfl] at e2
 rw[e2]
 have hl:(List.replicate (List.replicate ((g.Funcs.length:Nat):Int).toNat (0:Int)).length (-1:Int))=List.replicate g.Funcs.length (-1):=by simp
 rw[hl,q2h (by simpa using ht),Option.bind_some,Int.toNat_natCast]
 have hrow:∀v r,rows[v]? = some r->∀x:Int,x∈r<->∃i:Nat,x=(i:Int)/\Ei g how fs i v:=fun v r hr x=>by
  rw[(h1.row v r hr).2]
  constructor
  ·rintro⟨i,e,q|⟨hv,hi,_,q⟩⟩
   ·exact q.elim
   ·exact⟨i,e,hv,hi,q⟩
  ·rintro⟨i,e,hv,hi,q⟩
   exact⟨i,e,.inr ⟨hv,hi,Nat.zero_le _,q⟩⟩
 have hneg:neg ((List.replicate g.Funcs.length (-1)).set t 0)+1=g.Funcs.length:=by
  rw[w8a (by simpa using ht) (by simp) (by omega)]
  unfold neg
  rw[List.countP_replicate,if_pos (by simp)]
 have q5d:∀i:Nat,((List.replicate g.Funcs.length (-1:Int)).set t 0)[i]? = if i=t then some 0 else if i<g.Funcs.length then some (-1) else none:=fun i=>by
  rw[List.getElem?_set,List.getElem?_replicate]
  by_cases e:t=i
  ·rw[if_pos e,if_pos e.symm,if_pos (by simpa using ht)]
  ·rw[if_neg e,if_neg (Ne.symm e)]
 have hE1:∀i j,Ei g how fs i j->i<g.Funcs.length:=fun i j ⟨_,h,_⟩=>h
 have hdN:∀i n,Ds (Ei g how fs) t n i->i<g.Funcs.length:=by
  rintro i n ⟨w,_⟩
  cases w with
  |z=>exact ht
  |s e _=>exact hE1 _ _ e
 have I:w4i g.Funcs.length (Ei g how fs) t ((List.replicate g.Funcs.length (-1:Int)).set t 0) [t] [] 0:=by
  refine⟨by simp,fun i v h=>?_,fun i n hn d=>?_,fun u d=>?_,fun v hv=>?_,fun v=>?_⟩
  ·rw[q5d] at h
   split at h
   ·rename_i e
    simp only[Option.some.injEq] at h
    exact .inr ⟨0,h.symm,by omega,Ds.zero.2 e⟩
   ·split at h
    ·simp only[Option.some.injEq] at h;exact .inl h.symm
    ·simp at h
  ·obtain rfl:n=0:=by omega
   rw[q5d,if_pos (Ds.zero.1 d)];rfl
  ·obtain⟨y,e,dy⟩:=d.succ
   exact .inr ⟨y,by rw[Ds.zero.1 dy];simp,e,dy⟩
  ·simp only[List.mem_singleton] at hv;exact Ds.zero.2 hv
  ·rw[q5d]
   constructor
   ·intro h;simp at h
   ·intro h
    split at h
    ·simp at h
    ·split at h<;>simp at h
 obtain⟨d,e3,h3,h4⟩:=v2d F R.fl hE1 rows h1.len hrow (fun l80=>some l80) hdN F ((List.replicate g.Funcs.length (-1:Int)).set t 0) [t] [] 0 I (by simp;omega) (by simp;omega) (by simp)
 exact⟨d,e3,h3,h4⟩
end
theorem j6u{α:Type}(k:Tx):∀l:List (Tx×α),q6b l k=((atK l k).head?).map (·.2)
 |[]=>by simp[q6b,atK]
 |p::l=>by
  unfold atK
  rw[List.filter_cons]
  simp only[q6b]
  by_cases h:p.1=k
  ·simp[h]
  ·rw[if_neg h,if_neg (by simpa using h),j6u k l];rfl
theorem v1t{α:Type}(l:List (Tx×α))(k:Tx):q6b (q4m l) k=q6b l k:=by rw[j6u,j6u,z5e]
theorem j5c(n:Int)(x:Tx):∀(l:List Tx) (m:List (Tx×Int)),q6b (v3t n m l) x=if x∈l then some n else q6b m x
 |[],m=>by simp[v3t]
 |y::l,m=>by
  rw[v3t,j5c n x l,v1t,q6j]
  by_cases h:x∈l
  ·rw[if_pos h,if_pos (List.mem_cons_of_mem _ h)]
  ·rw[if_neg h]
   by_cases e:y=x
   ·rw[if_pos e,if_pos (by rw[e];simp)]
   ·rw[if_neg e,if_neg (fun q=>(List.mem_cons.1 q).elim (fun q=>e q.symm) h)]
theorem v5p(n:Int):∀(l:List Tx) (m:List (Tx×Int)),(m.map (·.1)).Pairwise (fun a b=>Op.bytesLess a b=true)->((v3t n m l).map (·.1)).Pairwise (fun a b=>Op.bytesLess a b=true)
 |[],m,h=>h
 |y::l,m,h=>v5p n l _ (w6c y n h)
section
variable{g:q7c}{how:Int}{fs:List Tx}{n:q2b}{s:q5a}
theorem j1w(X:z1o g how fs s)(a:q1a):j3w how s a=true<->cnt g how fs a:=by
 rw[j2w how s a X.m]
 unfold cnt
 rw[X.hm]
theorem v0p(on:Tx->Bool)(nm:Tx)(p:q1a->Bool):∀(cs:List q6c) (k:Int),((lks g on nm k cs).any fun l=>l.aims.any p)=true<->∃c,c∈cs/\on c.Feature=true/\∃a,a∈q3j g c/\p a=true
 |[],k=>by simp[lks]
 |c::cs,k=>by
  rw[lks]
  by_cases ho:on c.Feature=true
  ·rw[if_pos ho,List.any_cons,Bool.or_eq_true,v0p on nm p cs]
   simp only[List.any_eq_true,List.mem_cons]
   constructor
   ·rintro(⟨a,q⟩|⟨c',q1,q2⟩)
    ·exact⟨c,.inl rfl,ho,a,q⟩
    ·exact⟨c',.inr q1,q2⟩
   ·rintro⟨c',rfl|q1,q2,q3⟩
    ·exact .inl q3
    ·exact .inr ⟨c',q1,q2,q3⟩
  ·rw[if_neg ho,v0p on nm p cs]
   simp only[List.mem_cons]
   constructor
   ·rintro⟨c',q1,q2⟩;exact⟨c',.inr q1,q2⟩
   ·rintro⟨c',rfl|q1,q2,q3⟩
    ·exact absurd q2 ho
    ·exact⟨c',q1,q2,q3⟩
structure y0e(g:q7c)(how:Int)(fs:List Tx)(T:Tx)(d:Nat)(m:List (Tx×Int)):Prop where
 srt:(m.map (·.1)).Pairwise (fun a b=>Op.bytesLess a b=true)
 val:∀x v,q6b m x=some v<->∃k:Nat,v=(k:Int)/\k<d/\Ds (Ed g how fs) T k x
theorem y0e.new{T:Tx}(R:q0h g)(N:z3m g fs n)(X:z1o g how fs s){d:Nat}(hd:d+1<=100000){m:List (Tx×Int)}(I:y0e g how fs T (d+1) m)(x:Tx):x∈z3k n how s ((d+1:Nat):Int) m s.reached<->Ds (Ed g how fs) T (d+1) x:=by
 have hw:w64 (((d+1:Nat):Int) - 1)=(d:Int):=by rw[q9w (by omega) (by omega)];omega
 have hnear:∀a:q1a,w9a how s ((d+1:Nat):Int) m a=true<->cnt g how fs a/\Ds (Ed g how fs) T d a.to:=fun a=>by
  unfold w9a
  rw[hw,Bool.and_eq_true,Bool.and_eq_true,j1w X]
  constructor
  ·rintro⟨⟨q1,q2⟩,q3⟩
   refine⟨q3,?_⟩
   obtain⟨v,hv⟩:=Option.isSome_iff_exists.1 q1
   rw[hv] at q2
   obtain⟨k,e,_,dk⟩:=(I.val _ _).1 hv
   have:v=(d:Int):=by simpa using q2
   obtain rfl:k=d:=by omega
   exact dk
  ·rintro⟨q3,dk⟩
   have:=(I.val a.to (d:Int)).2 ⟨d,rfl,by omega,dk⟩
   rw[this]
   exact⟨⟨rfl,by simp⟩,q3⟩
 unfold z3k
 simp only[List.mem_map,List.mem_filter,Bool.and_eq_true,Bool.not_eq_true']
 constructor
 ·rintro⟨e,⟨he,h1,h2⟩,rfl⟩
  have hr:RN g how (onF fs) false e.1:=(X.hr e.1).1 (List.mem_map_of_mem he)
  obtain⟨i,hi,hie⟩:=q3q (hr.names R)
  have hl:z2p n e.1=lks g (onF fs) e.1 0 (g.Funcs[i]).Calls:=by rw[<-hie];exact N.l _ (List.getElem_mem hi)
  unfold v3i at h2
  rw[hl,v0p] at h2
  obtain⟨c,hc,ho,a,ha,hn⟩:=h2
  obtain⟨hcn,dk⟩:=(hnear a).1 hn
  refine⟨.s ⟨hr,_,List.getElem_mem hi,hie,c,hc,ho,a,ha,hcn,rfl⟩ dk.1,fun k hk w=>?_⟩
  obtain⟨k',hk',dk'⟩:=w.least
  rw[(I.val e.1 (k':Int)).2 ⟨k',rfl,by omega,dk'⟩] at h1
  simp at h1
 ·intro h
  obtain⟨y,⟨hr,f,hf,hfe,c,hc,ho,a,ha,hcn,rfl⟩,dy⟩:=h.succ
  have hm:=(X.hr x).2 hr
  obtain⟨e,he,hex⟩:=List.mem_map.1 hm
  have hl:z2p n x=lks g (onF fs) x 0 f.Calls:=by rw[<-hfe];exact N.l _ hf
  refine⟨e,⟨he,?_,?_⟩,hex⟩
  ·rw[hex]
   cases hg:q6b m x with
   |none=>rfl
   |some v=>
    obtain⟨k,_,hk,dk⟩:=(I.val x v).1 hg
    have:=dk.uniq h
    omega
  ·unfold v3i
   rw[hex,hl,v0p]
   exact⟨c,hc,ho,a,ha,(hnear a).2 ⟨hcn,dy⟩⟩
theorem y0e.names{T:Tx}(R:q0h g)(hT:q4q g T=true){d:Nat}{m:List (Tx×Int)}(I:y0e g how fs T d m):m.length<=3000:=by
 have:=List.Nodup.length_le_of_subset (q3x I.srt) (l₂:=g.Funcs.map q5e.Name) (fun x hx=>by
  obtain⟨v,hv⟩:=Option.isSome_iff_exists.1 ((z6i m x).2 hx)
  obtain⟨k,_,_,dk⟩:=(I.val x v).1 hv
  cases dk.1 with
  |z=>obtain⟨i,hi,rfl⟩:=q3q hT;exact List.mem_map_of_mem (List.getElem_mem hi)
  |s e _=>
   obtain⟨_,f,hf,rfl,_⟩:=e
   exact List.mem_map_of_mem hf)
 simp only[List.length_map] at this
 have:=R.fl
 omega
def w5i(g:q7c)(how:Int)(fs:List Tx)(T:Tx)(m:List (Tx×Int)):Prop:=∀x v,q6b m x=some v<->∃k:Nat,v=(k:Int)/\Ds (Ed g how fs) T k x
theorem v9b(F:Nat)(R:q0h g)(N:z3m g fs n)(X:z1o g how fs s){T:Tx}(hT:q4q g T=true):∀(q d:Nat) (m:List (Tx×Int)),y0e g how fs T (d+1) m->d+1<=m.length->3001 - m.length<q->
  ∃r,z9n F n how s q ((d+1:Nat):Int) m=some r/\w5i g how fs T r
 |0,d,m,I,_,h=>absurd h (Nat.not_lt_zero _)
 |q+1,d,m,I,hd,h=>by
  have hm:=I.names R hT
  have hrl:s.reached.length<=3000:=by
   have:=j1d X.r (l:=g.Funcs.map q5e.Name) (fun x hx=>by
    obtain⟨i,hi,rfl⟩:=q3q (((X.hr x).1 hx).names R)
    exact List.mem_map_of_mem (List.getElem_mem hi))
   simp only[List.length_map] at this
   have:=R.fl
   omega
  have hnew:=I.new R N X (by omega)
  have hnl:(z3k n how s ((d+1:Nat):Int) m s.reached).length<=3000:=by
   unfold z3k
   rw[List.length_map]
   exact Nat.le_trans (List.length_filter_le _ _) hrl
  rw[z9n,q2e,q1v,if_pos (.inr (by simp only[List.length_nil];omega))]
  simp only[List.length_nil,Nat.zero_add,List.nil_append]
  by_cases h0:(z3k n how s ((d+1:Nat):Int) m s.reached).length=0
  ·rw[if_pos (by rw[h0];rfl)]
   have hnil:=List.length_eq_zero_iff.1 h0
   refine⟨m,rfl,fun x v=>?_⟩
   rw[I.val]
   constructor
   ·rintro⟨k,e,_,dk⟩;exact⟨k,e,dk⟩
   ·rintro⟨k,e,dk⟩
    refine⟨k,e,?_,dk⟩
    apply Classical.byContradiction
    intro hk
    obtain⟨y,dy⟩:=dk.down (d+1) (by omega)
    have:=(hnew y).2 dy
    rw[hnil] at this
    simp at this
  ·rw[if_neg (by rw[beq_iff_eq];omega)]
   have hw:w64 (((d+1:Nat):Int)+1)=((d+1+1:Nat):Int):=by rw[q9w (by omega) (by omega)];omega
   rw[hw]
   have I2:y0e g how fs T (d+1+1) (v3t ((d+1:Nat):Int) m (z3k n how s ((d+1:Nat):Int) m s.reached)):=by
    refine⟨v5p _ _ _ I.srt,fun x v=>?_⟩
    rw[j5c]
    by_cases hx:x∈z3k n how s ((d+1:Nat):Int) m s.reached
    ·have dx:=(hnew x).1 hx
     rw[if_pos hx]
     constructor
     ·intro e;simp only[Option.some.injEq] at e;exact⟨d+1,e.symm,by omega,dx⟩
     ·rintro⟨k,e,_,dk⟩
      rw[e,dk.uniq dx]
    ·rw[if_neg hx,I.val]
     constructor
     ·rintro⟨k,e,hk,dk⟩;exact⟨k,e,by omega,dk⟩
     ·rintro⟨k,e,hk,dk⟩
      refine⟨k,e,?_,dk⟩
      apply Classical.byContradiction
      intro hk2
      obtain rfl:k=d+1:=by omega
      exact hx ((hnew x).2 dk)
   have hgrow:m.length+1<=(v3t ((d+1:Nat):Int) m (z3k n how s ((d+1:Nat):Int) m s.reached)).length:=by
    obtain⟨x,hx⟩:=List.exists_mem_of_length_pos (by omega:0<(z3k n how s ((d+1:Nat):Int) m s.reached).length)
    have dx:=(hnew x).1 hx
    have hxm:x ∉ m.map (·.1):=fun q=>by
     obtain⟨v,hv⟩:=Option.isSome_iff_exists.1 ((z6i m x).2 q)
     obtain⟨k,_,hk,dk⟩:=(I.val x v).1 hv
     have:=dk.uniq dx
     omega
    have:=List.Nodup.length_le_of_subset (l₁:=x::m.map (·.1)) (l₂:=(v3t ((d+1:Nat):Int) m (z3k n how s ((d+1:Nat):Int) m s.reached)).map (·.1)) (List.nodup_cons.2 ⟨hxm,q3x I.srt⟩) (fun y hy=>by
     rw[<-z6i,j5c]
     split
     ·rfl
     ·rename_i hn
      rcases List.mem_cons.1 hy with rfl|hy
      ·exact absurd hx hn
      ·exact(z6i m y).2 hy)
    simpa using this
   exact v9b F R N X hT q (d+1) _ I2 (by omega) (by have:=I2.names R hT;omega)
theorem y7d(F:Nat)(hF:10000<=F)(R:q0h g)(N:z3m g fs n)(X:z1o g how fs s){T:Tx}(hT:q4q g T=true):∃m,M103 F n how s T=some m/\w5i g how fs T m:=by
 unfold M103
 have I:y0e g how fs T (0+1) (q0g [] T 0):=by
  refine⟨by simp[q0g],fun x v=>?_⟩
  rw[q6j]
  constructor
  ·intro h
   split at h
   ·rename_i e
    simp only[Option.some.injEq] at h
    exact⟨0,h.symm,by omega,Ds.zero.2 e.symm⟩
   ·simp[q6b] at h
  ·rintro⟨k,e,hk,dk⟩
   obtain rfl:k=0:=by omega
   rw[if_pos (Ds.zero.1 dk).symm,e];rfl
 exact v9b F R N X hT F 0 _ I (by simp[q0g]) (by omega)
theorem z4z(R:q0h g){i j:Nat}(hi:i<g.Funcs.length)(hj:j<g.Funcs.length)(h:(g.Funcs[i]).Name=(g.Funcs[j]).Name):i=j:=by
 have h1:=q1t R 0 [] hi
 rw[h,q1t R 0 [] hj] at h1
 omega
theorem ed_fs(R:q0h g){x y:Tx}(h:Ed g how fs x y):q4q g y=true:=by
 obtain⟨_,f,hf,_,c,hc,_,a,ha,_,rfl⟩:=h
 exact q1r R hf hc ha
theorem wk_in{t:Nat}{ht:t<g.Funcs.length}{n i:Nat}(h:Wk (Ei g how fs) t n i):∀hi:i<g.Funcs.length,Wk (Ed g how fs) (g.Funcs[t]).Name n (g.Funcs[i]).Name:=by
 induction h with
 |z=>intro hi;exact .z
 |s e _ ih=>intro hi;obtain⟨hj,hi',e⟩:=e;exact .s e (ih hj)
theorem wk_out(R:q0h g){t:Nat}{ht:t<g.Funcs.length}{n:Nat}{x:Tx}(h:Wk (Ed g how fs) (g.Funcs[t]).Name n x):∀i (hi:i<g.Funcs.length),(g.Funcs[i]).Name=x->Wk (Ei g how fs) t n i:=by
 induction h with
 |z=>intro i hi e;rw[z4z R hi ht e];exact .z
 |s e _ ih=>
  rintro i hi rfl
  obtain⟨j,hj,rfl⟩:=q3q (ed_fs R e)
  exact .s ⟨hj,hi,e⟩ (ih j hj rfl)
theorem w7q(R:q0h g){t:Nat}(ht:t<g.Funcs.length){n i:Nat}(hi:i<g.Funcs.length):Wk (Ei g how fs) t n i<->Wk (Ed g how fs) (g.Funcs[t]).Name n (g.Funcs[i]).Name:=
 ⟨fun h=>wk_in (ht:=ht) h hi,fun h=>wk_out (ht:=ht) R h i hi rfl⟩
theorem w5t(R:q0h g){t:Nat}(ht:t<g.Funcs.length){n i:Nat}(hi:i<g.Funcs.length):Ds (Ei g how fs) t n i<->Ds (Ed g how fs) (g.Funcs[t]).Name n (g.Funcs[i]).Name:=by
 unfold Ds
 rw[w7q R ht hi]
 refine and_congr Iff.rfl (forall_congr' fun m=>imp_congr Iff.rfl ?_)
 rw[w7q R ht hi]
theorem v8g(R:q0h g){t:Nat}(ht:t<g.Funcs.length){d:List Int}(W:w7g g how fs t d){i:Nat}(hi:i<g.Funcs.length):
  ∃v,d[i]? = some v/\((∃n:Nat,v=(n:Int)/\n<=3001/\Ds (Ed g how fs) (g.Funcs[t]).Name n (g.Funcs[i]).Name)\/(v = -1/\∀n,¬Ds (Ed g how fs) (g.Funcs[t]).Name n (g.Funcs[i]).Name)):=by
 have hi':i<d.length:=by rw[W.1];exact hi
 refine⟨d[i],List.getElem?_eq_getElem hi',?_⟩
 rcases W.2 i hi' with ⟨n,e,q0,q⟩|⟨e,q⟩
 ·exact .inl ⟨n,e,q0,(w5t R ht hi).1 q⟩
 ·exact .inr ⟨e,fun n h=>q n ((w5t R ht hi).2 h).1⟩
end
end Go.Proofs.YtpbkggamiipdmaaGreat
