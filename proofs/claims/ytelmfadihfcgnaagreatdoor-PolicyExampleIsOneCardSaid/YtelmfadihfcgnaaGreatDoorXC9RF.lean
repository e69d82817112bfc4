/- Part of the proof: C9QJ, C9Ord, C9QK, C9RA, C9RB, C9RC, C9RD, C9RE, C9RF. -/
import Derived.Test.YtelmfadihfcgnaaGreatDoorXC9QI
import Derived.Test.YtelmfadihfcgnaaGreatDoorXC9M
import Derived.Test.YtelmfadihfcgnaaGreatDoorXC9PB
set_option linter.unusedSimpArgs false
set_option linter.unusedVariables false
namespace Go.Proofs.YtelmfadihfcgnaaGreatDoor
open Go Go.Pv
set_option maxRecDepth 100000
def lw(l:Lf):Nat:=if l.k=2 then l.tx.length else if l.k=3 then 2*l.tx.length else if l.k=4 then 0 else 2
def wsm(ls:List Lf)(n:Txt):Nat:=(ls.map fun l=>if l.nm=n then lw l else 0).sum
theorem w0y(d:List Lf)(l:Lf)(n:Txt):wsm (d++[l]) n=wsm d n+(if l.nm=n then lw l else 0):=by
 unfold wsm;simp
theorem y1p{l:Lf}(h:v2b l):lw l<=100:=by
 have:=h.len;unfold lw
 repeat' split
 all_goals omega
theorem v3t{ls:List Lf}(h:∀l,l∈ls->v2b l)(n:Txt):wsm ls n<=100*ls.length:=by
 unfold wsm
 induction ls with
 |nil=>simp
 |cons l r ih=>
  have h1:=ih fun m hm=>h m (by simp[hm]);have h2:=y1p (h l (by simp));simp only[bo9,List.sum_cons,ca9];split<;>omega
structure SOk(s:q4a)(w:Nat):Prop where
 is:∀e,e∈s.is->okT e
 bg:∀e,e∈s.begins->okT e
 ns:∀n,n∈s.numbers->okN n
 tx:s.asText=false->s.is=[]/\s.begins=[]
 wt:s.weight=2+(w:Int)
 sz:s.is.length+2*s.begins.length+2*s.numbers.length=w
structure Ga(all:MpS)(d:List Lf):Prop where
 kn:KN all
 ke:∀n,n∈all.map (·.1)<->∃l,l∈d/\l.nm=n
 sm:∀n,n∈all.map (·.1)->q7f all n=some (some (z1i all n))
 lf:∀l,l∈d->y3j (z1i all l.nm) l
 ok:∀n,SOk (z1i all n) (wsm d n)
 ln:all.length<=d.length
theorem w6l{κ τ:Type}[DecidableEq κ](m:List (κ×τ))(k:κ)(v:τ):(q0m m k v).length<=m.length+1:=by
 induction m with
 |nil=>simp[q0m]
 |cons p r ih=>
  rw[q0m];split
  ·simp
  ·simp only[ca9];omega
theorem v7y{s:q4a}{l m:Lf}(h:y3j s m):y3j (v8t l s) m:=by
 unfold v8t;rcases h with ⟨a,b,c⟩|⟨a,b,c⟩|⟨a,b⟩|⟨a,b,c⟩
 ·refine .inl ⟨a,?_⟩
  repeat' split
  all_goals first|exact⟨fun e he=>cn8 _ (b e he),rfl⟩|exact⟨b,rfl⟩|exact⟨b,c⟩
 ·refine .inr (.inl ⟨a,?_⟩)
  repeat' split
  all_goals first|exact⟨fun e he=>cn8 _ (b e he),rfl⟩|exact⟨b,rfl⟩|exact⟨b,c⟩
 ·refine .inr (.inr (.inl ⟨a,?_⟩))
  repeat' split
  all_goals first|exact b|rfl
 ·refine .inr (.inr (.inr ⟨a,?_⟩))
  repeat' split
  all_goals first|exact⟨cn8 _ b,rfl⟩|exact⟨b,rfl⟩|exact⟨b,c⟩
theorem w5l{s:q4a}{l:Lf}(h:v2b l):y3j (v8t l s) l:=by
 have hk:=h.k;unfold v8t;by_cases h2:l.k=2
 ·rw[if_pos h2];exact .inl ⟨h2,fun e he=>List.mem_append_right _ he,rfl⟩
 rw[if_neg h2];by_cases h3:l.k=3
 ·rw[if_pos h3];exact .inr (.inl ⟨h3,fun e he=>List.mem_append_right _ he,rfl⟩)
 rw[if_neg h3];by_cases h4:l.k=4
 ·rw[if_pos h4];exact .inr (.inr (.inl ⟨h4,rfl⟩))
 rw[if_neg h4];exact .inr (.inr (.inr ⟨by omega,by simp,rfl⟩))
theorem SOk.upd{s:q4a}{w:Nat}(h:SOk s w){l:Lf}(hl:v2b l)(hw:w<=100000):SOk (v8t l s) (w+lw l):=by
 have hk:=hl.k;have hlen:=hl.len;have hwt:=h.wt;have hsz:=h.sz;unfold v8t lw;by_cases h2:l.k=2
 ·rw[if_pos h2,if_pos h2];refine⟨fun e he=>(cc8.1 he).elim (h.is e) (hl.tx e),h.bg,h.ns,fun h=>absurd h (by simp),?_,?_⟩
  ·dsimp only;rw[q9i (by omega) (by omega)];omega
  ·dsimp only;rw[bj8];omega
 rw[if_neg h2,if_neg h2];by_cases h3:l.k=3
 ·rw[if_pos h3,if_pos h3];refine⟨h.is,fun e he=>(cc8.1 he).elim (h.bg e) (hl.tx e),h.ns,fun h=>absurd h (by simp),?_,?_⟩
  ·dsimp only;rw[q9i (n:=2*((l.tx.length:Nat):Int)) (by omega) (by omega),q9i (by omega) (by omega)];omega
  ·dsimp only;rw[bj8];omega
 rw[if_neg h3,if_neg h3];by_cases h4:l.k=4
 ·rw[if_pos h4,if_pos h4];exact⟨h.is,h.bg,h.ns,h.tx,by simpa using hwt,by simpa using hsz⟩
 rw[if_neg h4,if_neg h4];refine⟨h.is,h.bg,fun n hn=>?_,h.tx,?_,?_⟩
 ·rcases cc8.1 hn with hn|hn
  ·exact h.ns n hn
  ·simp only[bp9] at hn;rw[hn];exact hl.n (by omega)
 ·dsimp only;rw[q9i (by omega) (by omega)];omega
 ·dsimp only;rw[bj8,List.length_singleton];omega
theorem Ga.add{all:MpS}{d:List Lf}(h:Ga all d){l:Lf}(hl:v2b l)(hd:∀l,l∈d->v2b l)(hlen:d.length<=100):Ga (j6k all l) (d++[l]):=by
 have hke:∀n,n∈(j6k all l).map (·.1)<->n=l.nm\/n∈all.map (·.1):=fun n=>j4w n;refine⟨h.kn.put,fun n=>?_,fun n hn=>?_,fun m hm=>?_,fun n=>?_,?_⟩
 ·rw[hke,h.ke];constructor
  ·rintro(e|⟨m,hm,e⟩)
   ·exact⟨l,by simp,e.symm⟩
   ·exact⟨m,by simp[hm],e⟩
  ·rintro⟨m,hm,e⟩
   rcases cc8.1 hm with hm|hm
   ·exact .inr ⟨m,hm,e⟩
   ·simp only[bp9] at hm;rw[<-hm];exact .inl e.symm
 ·rw[z9m];unfold j6k;rw[q3m];by_cases e:l.nm=n
  ·rw[if_pos e,if_pos e]
  ·rw[if_neg e,if_neg e];exact h.sm n (((hke n).1 hn).resolve_left (Ne.symm e))
 ·rw[z9m];rcases cc8.1 hm with hm|hm
  ·have:=h.lf m hm;split
   ·rename_i e;rw[e];exact v7y this
   ·exact this
  ·simp only[bp9] at hm;rw[hm,if_pos rfl];exact w5l hl
 ·rw[z9m,w0y];by_cases e:l.nm=n
  ·rw[if_pos e,if_pos e,<-e];exact(h.ok l.nm).upd hl (by have:=v3t hd l.nm;omega)
  ·rw[if_neg e,if_neg e];exact h.ok n
 ·have:=w6l all l.nm (some (v8t l (z1i all l.nm)));have:=h.ln;simp only[bj8,List.length_singleton];unfold j6k;omega
theorem Ga.fold:∀(ls d:List Lf) (all:MpS),Ga all d->(∀l,l∈ls->v2b l)->(∀l,l∈d->v2b l)->d.length+ls.length<=100->Ga (ls.foldl j6k all) (d++ls)
 |[],d,all,h,_,_,_=>by simpa using h
 |l::r,d,all,h,hl,hd,hlen=>by
  simp only[ca9] at hlen
  have:=Ga.fold r (d++[l]) (j6k all l) (h.add (hl l (by simp)) hd (by omega)) (fun m hm=>hl m (by simp[hm])) (fun m hm=>(cc8.1 hm).elim (hd m) fun hm=>by
   simp only[bp9] at hm;rw[hm];exact hl l (by simp)) (by simp;omega)
  rw[by8]
  simpa using this
def q9r(t:Tr):MpS:=t.lvs.foldl j6k []
theorem j2x(t:Tr)(hz:t.flt=0)(hc:t.cnt<=60):Ga (q9r t) t.lvs:=by
 have h0:Ga [] []:=⟨by simp[KN],fun n=>by simp,fun n hn=>by simp at hn,fun l hl=>by simp at hl,fun n=>⟨by simp[z1i,q7f,w8z],by simp[z1i,q7f,w8z],by simp[z1i,q7f,w8z],fun _=>⟨rfl,rfl⟩,rfl,rfl⟩,by simp⟩;have:=Ga.fold t.lvs [] [] h0 (z9d t hz) (by simp) (by have:=z5r t;simp;omega);rw[ad8] at this;exact this
theorem y9e(t:Tr)(ok:t.ok)(hz:t.flt=0)(hc:t.cnt<=60)(F:Nat)(hF:t.fu<=F):M33 F t.cd []=some (q9r t):=
 y0w t ok hz F hF [] 0 ⟨fun n=>by simp[q7f],fun n=>by simp[z1i,q7f,w8z]⟩ (by have:=z5r t;omega)
def okW(p:B8×(Option q4a)):Bool:=match p.2 with|some s=>decide (1<=s.weight/\s.weight<=1000000000000)|none=>false
def wtS(s:q4a):Int:=if (s.has||(s.asText&&s.asNo))=true then s.weight+1 else s.weight
def wtP(p:B8×(Option q4a)):Int:=match p.2 with|some s=>wtS s|none=>1
def z3i:List (B8×(Option q4a))->Int
 |[]=>1
 |p::l=>wtP p*z3i l
theorem v7o{l l':List (B8×(Option q4a))}(h:l.Perm l'):z3i l=z3i l':=by
 induction h with
 |nil=>rfl
 |cons x _ ih=>simp only[z3i,ih]
 |swap x y l=>simp only[z3i];rw[<-Int.mul_assoc,<-Int.mul_assoc,Int.mul_comm (wtP y)]
 |trans _ _ a b=>exact a.trans b
theorem w9x{p:B8×(Option q4a)}(h:okW p=true):1<=wtP p:=by
 obtain⟨k,q⟩:=p;cases q with
 |none=>cases h
 |some s=>
  have:=of_decide_eq_true (show decide (1<=s.weight/\s.weight<=1000000000000)=true from h)
  show 1<=wtS s
  unfold wtS;split<;>omega
theorem j6u:∀{l:List (B8×(Option q4a))},l.all okW=true->1<=z3i l
 |[],_=>by simp[z3i]
 |p::l,h=>by
  simp only[ai9,as9] at h;have h1:=w9x h.1;have h2:=j6u h.2
  show 1<=wtP p*z3i l
  have:=Int.mul_le_mul h1 h2 (by omega) (by omega)
  simpa using this
theorem w1n{n w:Int}(hn:1<=n/\n<=200000)(hw:1<=w/\w<=1000000000001):w64 (n*w)=n*w/\1<=n*w:=by
 have h1:1*1<=n*w:=Int.mul_le_mul hn.1 hw.1 (by omega) (by omega);have h2:n*w<=200000*1000000000001:=Int.mul_le_mul hn.2 hw.2 (by omega) (by omega);exact⟨q9i (by omega) (by omega),by omega⟩
theorem z5q(F:Nat):∀(l:List (B8×(Option q4a))) (n:Int),1<=n/\n<=200000->l.all okW=true->q2w F l n=some (decide (n*z3i l<=200000))
 |[],n,hn,_=>by
  unfold q2w;simp only[z3i,Int.mul_one];rw[decide_eq_true hn.2]
 |p::l,n,hn,hl=>by
  unfold q2w;have hl0:=hl;simp only[ai9,as9] at hl;rw[if_pos ⟨hn,hl0⟩];have hp:=hl.1;obtain⟨k,q⟩:=p;cases q with
  |none=>cases hp
  |some s=>
   have hw:=of_decide_eq_true (show decide (1<=s.weight/\s.weight<=1000000000000)=true from hp);have ih:=fun m hm=>z5q F l m hm hl.2;have hpos:=j6u hl.2;have e1:w64 (s.weight+1)=s.weight+1:=q9i (by omega) (by omega)
   have key:∀w:Int,1<=w/\w<=1000000000001->wtP (k,some s)=w->(if (decide ((w64 (n*w))>200000))=true then some false else q2w F l (w64 (n*w)))=some (decide (n*z3i ((k,some s)::l)<=200000)):=by
    intro w hw hwe;obtain⟨h1,h2⟩:=w1n hn hw;rw[h1]
    show _=some (decide (n*(wtP (k,some s)*z3i l)<=200000))
    rw[hwe,<-Int.mul_assoc];by_cases hg:n*w>200000
    ·rw[if_pos (decide_eq_true hg)];have:n*w*1<=n*w*z3i l:=Int.mul_le_mul_of_nonneg_left hpos (by omega);rw[decide_eq_false (by omega)]
    ·rw[if_neg (by simpa using hg),ih _ ⟨h2,by omega⟩]
   simp only[cb8];cases hh:s.has with
   |true=>
    simp only[if_pos];rw[e1];exact key _ ⟨by omega,by omega⟩ (by simp[wtP,wtS,hh])
   |false=>
    rw[if_neg (by simp)];cases ht:s.asText with
    |true=>
     simp only[if_pos,jn];cases hn2:s.asNo with
     |true=>
      simp only[if_pos];rw[e1];exact key _ ⟨by omega,by omega⟩ (by simp[wtP,wtS,hh,ht,hn2])
     |false=>
      rw[if_neg (by simp)];exact key _ ⟨by omega,by omega⟩ (by simp[wtP,wtS,hh,ht,hn2])
    |false=>
     rw[if_neg (by simp)];exact key _ ⟨by omega,by omega⟩ (by simp[wtP,wtS,hh,ht])
theorem v9o{F:Nat}{l l':List (B8×(Option q4a))}{n:Int}{r:Bool}(hp:l.Perm l')(h:q2w F l n=some r):q2w F l' n=some r:=by
 cases l with
 |nil=>rw[<-hp.nil_eq];exact h
 |cons p t=>
  have hc:(1<=n/\n<=200000)/\(p::t).all okW=true:=by
   unfold q2w at h;split at h
   ·rename_i hc;exact hc
   ·cases h
  rw[z5q F _ n hc.1 hc.2] at h;rw[z5q F _ n hc.1 (by rw[<-hc.2];exact(hp.symm.all_eq)),<-v7o hp];exact h
def Ex(t:Tr):Prop:=∃v:Txt->Fd,(∀n,okV (v n))/\t.truA v=true
theorem v7w(s:q4a)(nums:List Int):(j7f s nums).length<=nums.length+1:=by
 unfold j7f;split<;>simp
theorem z9o{α β:Type}(f:α->List β)(B:Nat):∀l:List α,(∀x,x∈l->(f x).length<=B)->(l.flatMap f).length<=l.length*B
 |[],_=>by simp
 |x::l,h=>by
  have h1:=h x (by simp);have h2:=z9o f B l fun y hy=>h y (by simp[hy]);simp only[ac9,bj8,ca9,an8,ap8];omega
theorem v9q(s:q4a)(nums:List Int)(txs:List Txt):(q8s s nums txs).length<=(nums.length+1)+txs.length*(nums.length+1):=by
 have h1:=v7w s nums;unfold q8s;rw[bj8]
 have h2:(if (s.asText||s.has)=true then txs.flatMap (fun t=>(j7f s nums).map (tvs t)) else []).length<=txs.length*(nums.length+1):=by
  split
  ·exact z9o _ _ _ fun x _=>by rw[bk8];exact h1
  ·simp
 omega
structure Gvs(F:Nat)(s:q4a)(nums:List Int)(txs:List Txt):Prop where
 g:Gv F s nums txs
 rep:∀v,okV v->∃c,c∈q8s s nums txs/\v8r s (toF c) v
 ok:∀c,c∈q8s s nums txs->okV (toF c)
theorem y5q{s:q4a}{w:Nat}(h:SOk s w)(hw:w<=6000)(F:Nat)(hF:7000<=F):∃nums txs,Gvs F s nums txs:=by
 have hsz:=h.sz;obtain⟨nums,a1,a2,a3⟩:=y0i F s h.ns (by omega);obtain⟨txs,b1,b2,b3⟩:=y9h F s (by omega) (by omega) (by omega) h.bg;have hl:=v9q s nums txs;have hm:txs.length*(nums.length+1)<=12001*30002:=Nat.mul_le_mul (by omega) (by omega);refine⟨nums,txs,⟨a1,b1,by omega,by omega⟩,fun v hv=>w3c a3 h.ns b3 h.tx v hv,fun c hc=>w8o (fun x hx=>?_) (fun x hx=>?_) hc⟩
 ·rcases(a3 x).1 hx with e|⟨n,_,hn⟩
  ·rw[e];exact⟨by omega,by omega⟩
  ·unfold v6s at hn;exact of_decide_eq_true (cc9.1 hn).2
 ·exact(b3.ok x hx).elim (h.is x) id
def z4n(t:Tr):List Txt:=q1s ((q9r t).map (·.1))
theorem z0h{t:Tr}(hz:t.flt=0)(hc:t.cnt<=60){n:Txt}:n∈z4n t<->∃l,l∈t.lvs/\l.nm=n:=by
 unfold z4n;rw[(q5m _).mem_iff];exact(j2x t hz hc).ke n
theorem j2j{t:Tr}(hz:t.flt=0)(hc:t.cnt<=60):(z4n t).Nodup:=(q5m _).nodup_iff.2 (j2x t hz hc).kn
theorem v3j{t:Tr}(hz:t.flt=0)(hc:t.cnt<=60):(z4n t).length=(q9r t).length/\(q9r t).length<=60:=by
 have h1:=(j2x t hz hc).ln;have h2:=z5r t;refine⟨?_,by omega⟩;unfold z4n;rw[(q5m _).length_eq];simp
theorem v2j:okV ⟨false,false,[],0⟩:=⟨fun h=>absurd h (by simp),fun h=>absurd h (by simp)⟩
theorem v0w(t:Tr)(ok:t.ok)(hz:t.flt=0)(hc:t.cnt<=60)(F:Nat)(hF:t.fu+7100<=F):
  ∃by_ m' kn' r,M35 F (q9r t) t.cd=some (by_,z4n t)/\M36 F 0 by_ t.cd (z4n t) [] []=some (r,m',kn')/\(r=true<->Ex t)/\
   (r=true->∃s',Std m' kn' s'/\prT t s'=some true/\∀n x,s' n=some x->okV (toF x)/\n∈z4n t):=by
 have hg:=j2x t hz hc;have hlo:=z9d t hz;have hll:=z5r t;obtain⟨hl1,hl2⟩:=v3j hz hc;have hw:∀n,wsm t.lvs n<=6000:=fun n=>by have:=v3t hlo n;omega
 have hgs:=fun n=>y5q (hg.ok n) (hw n) F (by omega)
 have hnm:∀n,n∈(q9r t).map (·.1)->n.length<=1000:=fun n hn=>by
  obtain⟨l,hl,e⟩:=(hg.ke n).1 hn;have:=(hlo l hl).nm;rw[e] at this;unfold q8k at this;split at this
  ·cases this
  ·rw[as9,as9,as9,decide_eq_true_eq] at this;omega
 obtain⟨by_,e1,e2⟩:=y9v F (q9r t) t.cd hg.kn (by omega) (fun p hp=>hnm p.1 (bq8 hp)) (fun n hn=>by
  obtain⟨nums,txs,h⟩:=hgs n;exact⟨z1i (q9r t) n,nums,txs,hg.sm n hn,h.g⟩)
 have hnd:=j2j hz hc;have hs0:Std [] [] (fun _=>none:Asg):=⟨fun _=>rfl,fun _=>rfl,by simp[KN],by simp[KN]⟩;obtain⟨m',kn',hf⟩:=w9a t ok hz by_ (z4n t) hnd (by omega) (z4n t) [] rfl F (by omega) [] [] (fun _=>none) hs0 (fun _ _=>rfl)
 have hcan:∀n,n∈z4n t->∃nums txs,Gvs F (z1i (q9r t) n) nums txs/\∀x,x∈(q7f by_ n).getD []<->x∈q8s (z1i (q9r t) n) nums txs:=fun n hn=>by
  obtain⟨nums,txs,h⟩:=hgs n;exact⟨nums,txs,h,e2 n _ nums txs (hg.sm n ((q5m _).mem_iff.1 hn)) h.g⟩
 rw[show(([]:List Txt).length:Int)=0 from rfl] at hf;cases h4:fnd? (prT t) (fun n=>(q7f by_ n).getD []) (z4n t) (fun _=>none) with
 |some s'=>
  rw[h4] at hf;dsimp only at hf;obtain⟨g1,g2,g3⟩:=j2b (z4n t) _ s' hnd (fun _ _=>rfl) h4
  have hs':∀n x,s' n=some x->okV (toF x)/\n∈z4n t:=fun n x hx=>by
   rcases g3 n x hx with h|⟨h,h5⟩
   ·cases h
   ·obtain⟨nums,txs,q1,q2⟩:=hcan n h;exact⟨q1.ok x ((q2 x).1 h5),h⟩
  refine⟨by_,m',kn',true,e1,hf.1,⟨fun _=>?_,fun _=>rfl⟩,fun _=>⟨s',hf.2,g1,hs'⟩⟩;refine⟨fun n=>((asF s') n).getD ⟨false,false,[],0⟩,fun n=>?_,?_⟩
  ·unfold asF;dsimp only;cases hx:s' n with
   |none=>exact v2j
   |some x=>exact(hs' n x hx).1
  ·have h6:t.tr3 (fun n=>some (((asF s') n).getD ⟨false,false,[],0⟩))=some true:=z8m (fun n x hx=>by rw[hx];rfl) t true g1;rw[z8g (a:=fun n=>((asF s') n).getD ⟨false,false,[],0⟩) t fun _ _=>rfl] at h6;exact aj9 h6
 |none=>
  rw[h4] at hf;dsimp only at hf;refine⟨by_,m',kn',false,e1,hf.1,⟨fun h=>absurd h (by simp),fun⟨v,hv,ht⟩=>?_⟩,fun h=>absurd h (by simp)⟩;exfalso
  have hrep:∀n,∃c:q0a,n∈z4n t->c∈(q7f by_ n).getD []/\v8r (z1i (q9r t) n) (toF c) (v n):=fun n=>by
   by_cases hn:n∈z4n t
   ·obtain⟨nums,txs,q1,q2⟩:=hcan n hn;obtain⟨c,c1,c2⟩:=q1.rep (v n) (hv n);exact⟨c,fun _=>⟨(q2 c).2 c1,c2⟩⟩
   ·exact⟨zV,fun h=>absurd h hn⟩
  obtain⟨a,ha⟩:∃a:Txt->q0a,∀n,n∈z4n t->a n∈(q7f by_ n).getD []/\v8r (z1i (q9r t) n) (toF (a n)) (v n):=⟨fun n=>(hrep n).choose,fun n hn=>(hrep n).choose_spec hn⟩;refine j4o (w1j t) (z4n t) _ hnd (fun _ _=>rfl) h4 a (fun n hn=>(ha n hn).1) ?_;unfold prT
  rw[z8g (a:=fun n=>toF (a n)) t fun l hl=>by
   have hn:=(z0h hz hc).2 ⟨l,hl,rfl⟩;unfold asF j3f;dsimp only;rw[if_pos hn];rfl]
  rw[z0r t (b:=v) fun l hl=>v1j (hg.lf l hl) (ha l.nm ((z0h hz hc).2 ⟨l,hl,rfl⟩)).2,ht]
abbrev Srt(l:List Txt):Prop:=l.Pairwise (fun a b=>Op.bytesLess a b=true)
theorem midw{i j:Nat}(h:i+j<=1000000000):w64 (Int.tdiv (w64 ((i:Int)+(j:Int))) 2)=(((i+j) / 2:Nat):Int):=by
 rw[q9i (n:=(i:Int)+(j:Int)) (by omega) (by omega),show((i:Int)+(j:Int))=((i+j:Nat):Int) by omega,show(2:Int)=((2:Nat):Int) from rfl,<-Int.ofNat_tdiv,q9i (by omega) (by omega)]
theorem j9e(F:Nat)(a:List Txt)(x:Txt)(k:Int->Option (Int×Bool))(hlen:a.length<=100000000)(hs:Srt a):
  ∀(n i j:Nat),i<=j->j<=a.length->j - i<n->(∀q (h:q<a.length),q<i->Op.bytesLess a[q] x=true)->(∀q (h:q<a.length),j<=q->Op.bytesLess a[q] x=false)->
  ∃p:Nat,p<=a.length/\z0m F a x k n i j=k p/\(∀q (h:q<a.length),q<p->Op.bytesLess a[q] x=true)/\∀q (h:q<a.length),p<=q->Op.bytesLess a[q] x=false
 |0,i,j,_,_,h,_,_=>by omega
 |n+1,i,j,hij,hj,hn,h1,h2=>by
  rw[z0m];by_cases hc:i<j
  ·have hm:(i+j) / 2<a.length:=by omega
   rw[if_pos (decide_eq_true (by omega)),midw (by omega),q5h hm,cb8,q3c];by_cases hl:Op.bytesLess a[(i+j) / 2] x=true
   ·rw[if_pos hl,show w64 ((((i+j) / 2:Nat):Int)+1)=(((i+j) / 2+1:Nat):Int) by rw[q9i (by omega) (by omega)];rfl];refine j9e F a x k hlen hs n ((i+j) / 2+1) j (by omega) hj (by omega) (fun q h hq=>?_) h2;rcases bu9 q ((i+j) / 2) with hq2|hq2
    ·exact z7h (ax8.1 hs q ((i+j) / 2) h hm hq2) hl
    ·have:q=(i+j) / 2:=by omega
     subst this;exact hl
   ·rw[if_neg hl];refine j9e F a x k hlen hs n i ((i+j) / 2) (by omega) (by omega) (by omega) h1 (fun q h hq=>?_);have hl:Op.bytesLess a[(i+j) / 2] x=false:=by simpa using hl
    rcases bu9 ((i+j) / 2) q with hq2|hq2
    ·have:=ax8.1 hs ((i+j) / 2) q hm h hq2;cases hh:Op.bytesLess a[q] x
     ·rfl
     ·rw[z7h this hh] at hl;simp at hl
    ·have:q=(i+j) / 2:=by omega
     subst this;exact hl
  ·have:i=j:=by omega
   subst this;rw[if_neg (by simp)];exact⟨i,hj,rfl,h1,h2⟩
theorem v6h(F:Nat)(a:List Txt)(x:Txt)(hlen:a.length<=100000000)(hs:Srt a)(hF:a.length<F):
  ∃p:Nat,p<=a.length/\w4x F a x=some ((p:Int),decide (x∈a))/\(∀q (h:q<a.length),q<p->Op.bytesLess a[q] x=true)/\(∀q (h:q<a.length),p<=q->Op.bytesLess a[q] x=false)/\(x∈a->a[p]? = some x):=by
 obtain⟨p,hp,he,h1,h2⟩:=j9e F a x (fun(n4:Int)=>if (decide (n4<((a.length:Nat):Int)))=true then (idx a n4).bind fun x17=>some (n4,(x17==x)) else some (n4,false)) hlen hs F 0 a.length (by omega) (ae8 _) (by omega) (fun q h hq=>by omega) (fun q h hq=>by omega)
 have hin:x∈a->∃h:p<a.length,a[p]=x:=fun hx=>by
  obtain⟨q,hq,e⟩:=bl9 hx;have hpq:p<=q:=aw9 fun h=>by have:=h1 q hq h;rw[e,z7e] at this;cases this
  have hpl:p<a.length:=by omega
  refine⟨hpl,?_⟩;rcases bu9 p q with h|h
  ·have:=ax8.1 hs p q hpl hq h;rw[e,h2 p hpl (ae8 _)] at this;cases this
  ·have:p=q:=by omega
   subst this;exact e
 refine⟨p,hp,?_,h1,h2,fun hx=>?_⟩
 ·unfold w4x;rw[q3c,show(0:Int)=((0:Nat):Int) from rfl,he];by_cases hpl:p<a.length
  ·rw[if_pos (decide_eq_true (by omega)),q5h hpl,cb8]
   have:(a[p]==x)=decide (x∈a):=by
    by_cases hx:x∈a
    ·obtain⟨_,e⟩:=hin hx;rw[decide_eq_true hx,e,beq_self_eq_true]
    ·rw[decide_eq_false hx];exact beq_false_of_ne fun e=>hx (e ▸ be9 hpl)
   rw[this]
  ·rw[if_neg (by simp;omega),decide_eq_false fun hx=>hpl (hin hx).1]
 ·obtain⟨h,e⟩:=hin hx;rw[bb9 h,e]
theorem w6w(F:Nat)(a:List Txt)(x:Txt)(hlen:a.length<=100000000)(hs:Srt a)(hF:a.length<F):M83 F a x=some (decide (x∈a)):=by
 obtain⟨p,_,e,_⟩:=v6h F a x hlen hs hF;unfold M83;rw[e];rfl
theorem j8q(F:Nat)(a:List Txt)(x:Txt)(hlen:a.length<=1000000)(hs:Srt a)(hF:a.length<F):
  ∃a',w0r F a x=some a'/\Srt a'/\(∀y,y∈a'<->y=x\/y∈a)/\a'.length<=a.length+1:=by
 obtain⟨p,hp,e,h1,h2,h3⟩:=v6h F a x (by omega) hs hF;unfold w0r;rw[e,cb8];dsimp only;by_cases hx:x∈a
 ·rw[decide_eq_true hx,if_pos rfl];exact⟨a,rfl,hs,fun y=>⟨.inr,fun h=>h.elim (fun e=>e ▸ hx) id⟩,by omega⟩
 ·rw[decide_eq_false hx,if_neg (by simp)];have hpn:((p:Int)).toNat=p:=rfl;rw[hpn,if_pos ⟨by omega,hp⟩,if_pos (by simp;omega),if_pos (by simp;omega),if_pos ⟨by omega,hp⟩,if_pos (by simp;omega)];refine⟨_,rfl,?_,fun y=>?_,by simp;omega⟩
  ·have hlt:∀y,y∈a.take p->Op.bytesLess y x=true:=fun y hy=>by
    obtain⟨q,hq,e⟩:=bl9 hy;rw[List.getElem_take] at e;rw[<-e];rw[bl8] at hq;exact h1 q (by omega) (by omega)
   have hgt:∀y,y∈a.drop p->Op.bytesLess x y=true:=fun y hy=>by
    obtain⟨q,hq,e⟩:=bl9 hy;rw[List.getElem_drop] at e;rw[ao9] at hq;have:=h2 (p+q) (by omega) (by omega);rw[e] at this;rcases j5k x y with h|h|h
    ·exact h
    ·exact absurd (h ▸ ag9 hy) hx
    ·rw[h] at this;cases this
   refine bw8.2 ⟨bw8.2 ⟨hs.sublist (List.take_sublist _ _),by simp,fun b hb c hc=>?_⟩,hs.sublist (List.drop_sublist _ _),fun b hb c hc=>?_⟩
   ·simp only[bp9] at hc;rw[hc];exact hlt b hb
   ·rcases cc8.1 hb with hb|hb
    ·exact z7h (hlt b hb) (hgt c hc)
    ·simp only[bp9] at hb;rw[hb];exact hgt c hc
  ·rw[cc8,cc8,bp9]
   conv=>rhs;rw[<-cn9 p a]
   rw[cc8];constructor
   ·rintro((h|h)|h)
    ·exact .inr (.inl h)
    ·exact .inl h
    ·exact .inr (.inr h)
   ·rintro(h|h|h)
    ·exact .inl (.inr h)
    ·exact .inl (.inl h)
    ·exact .inr h
theorem v7j{s:Txt}(h:q8k s=true):s≠[]:=by
 rintro rfl;cases h
theorem v0x{x:q0c}(h:q6j x=0)(hk:¬(2<=x.Kind/\x.Kind<=5)):x.Name=[]/\(x.Kind=1->x.Kids=[]):=by
 unfold q6j at h;by_cases h0:x.Kind<1\/8<x.Kind
 ·rw[if_pos h0] at h;cases h
 rw[if_neg h0] at h
 by_cases h1:(!(decide (2<=x.Kind)&&decide (x.Kind<=5))&&!(x.Name==[])||!(x.Kind==2||x.Kind==3)&&decide (0<x.Texts.length)||!(x.Kind==5)&&(x.Op != 0||x.N != 0) ||
  !(if x.Kind=6 then x.Kids.length==1 else if 7<=x.Kind then decide (2<=x.Kids.length) else x.Kids.length==0))=true
 ·rw[if_pos h1] at h;cases h
 rw[at9,at9,at9,not_or,not_or,not_or] at h1;obtain⟨⟨⟨h2,_⟩,_⟩,h4⟩:=h1;constructor
 ·have e:(decide (2<=x.Kind)&&decide (x.Kind<=5))=false:=by
   cases hb:(decide (2<=x.Kind)&&decide (x.Kind<=5)) with
   |false=>rfl
   |true=>
    rw[as9,decide_eq_true_eq,decide_eq_true_eq] at hb;exact absurd hb hk
  rw[e] at h2
  simpa using h2
 ·intro h1;rw[if_neg (by omega),if_neg (by omega)] at h4;have:(x.Kids.length==0)=true:=by simpa using h4
  exact ba8.1 (by simpa using this)
theorem j4a{k op n:Int}{nm:Txt}{tx:List Txt}{ks:List Tr}(h:(Tr.mk k nm tx op n ks).flt=0):
  (nm≠[]/\ks=[]/\2<=k/\k<=5/\(Tr.mk k nm tx op n ks).lvs=[⟨k,nm,tx,op,n⟩])\/(nm=[]/\(Tr.mk k nm tx op n ks).lvs=Tr.lvss ks):=by
 obtain⟨hnode,hfl⟩:=q2r h;have hkk:=q2y hnode;dsimp only at hkk;rw[Tr.lvs];by_cases hk:2<=k/\k<=5
 ·obtain⟨h1,h2⟩:=j2v hnode hk
  have hks:ks=[]:=by
   have:=Tr.toKs_len ks;rw[h2] at this;exact ba8.1 this.symm
  exact .inl ⟨v7j h1.nm,hks,hk.1,hk.2,by rw[if_neg (by omega),if_neg (by omega)]⟩
 ·obtain⟨h1,h2⟩:=v0x hnode hk;dsimp only at h1 h2;refine .inr ⟨h1,?_⟩;by_cases h1:k=1
  ·have hks:ks=[]:=by
    have:=Tr.toKs_len ks;rw[h2 h1] at this;exact ba8.1 this.symm
   rw[if_pos h1,hks];rfl
  ·rw[if_neg h1,if_pos (by omega)]
theorem y2v:∀t:Tr,t.ok->t.flt=0->∀F,t.fu+2000<=F->∀a:List Txt,Srt a->a.length+t.cnt<=1000->
  ∃a',M51 F t.toT a=some a'/\Srt a'/\(∀y,y∈a'<->y∈a\/∃l,l∈t.lvs/\l.nm=y)/\a'.length<=a.length+t.cnt:=Tr.ind fun k nm tx op n ks ih ok hz F hF a ha hl=>by
 rw[Tr.fu] at hF;rw[Tr.cnt] at hl ⊢;obtain⟨hnode,hfl⟩:=q2r hz;obtain⟨F,rfl⟩:∃G,F=G+1:=⟨F - 1,by omega⟩
 show ∃a',w4f (M51 F) F (Tr.mk k nm tx op n ks).toT a=some a'/\_
 rw[Tr.toT,w4f];dsimp only;rcases j4a hz with ⟨h1,h2,_,_,h3⟩|⟨h1,h3⟩
 ·rw[if_pos (by simpa using h1)];obtain⟨a',e,g1,g2,g3⟩:=j8q F a nm (by omega) ha (by omega);refine⟨a',by rw[e];rfl,g1,fun y=>?_,by omega⟩;rw[g2,h3];constructor
  ·rintro(h|h)
   ·exact .inr ⟨⟨k,nm,tx,op,n⟩,by simp,h.symm⟩
   ·exact .inl h
  ·rintro(h|⟨l,h,e⟩)
   ·exact .inr h
   ·simp only[bp9] at h;subst h;exact .inl e.symm
 ·rw[if_neg (by simp[h1])];have hk:=(Tr.okks ok).2;rw[q3c,Tr.toKs_len,if_pos (by omega),show(((ks.length:Nat):Int)).toNat=ks.length by omega]
  have hloop:∀m j:Nat,j+m=ks.length->∀a:List Txt,Srt a->a.length+Tr.cnts (ks.drop j)<=1000->
    ∃a',z6v (M51 F) F ⟨k,nm,tx,op,n,Tr.toKs ks⟩ (fun(l7:List B8)=>some l7) m (j:Int) a=some a'/\Srt a'/\(∀y,y∈a'<->y∈a\/∃l,l∈Tr.lvss (ks.drop j)/\l.nm=y)/\a'.length<=a.length+Tr.cnts (ks.drop j):=by
   intro m
   induction m with
   |zero=>
    intro j hj a ha hl;rw[z6v,an9 (by omega)];exact⟨a,rfl,ha,fun y=>by simp[Tr.lvss],by omega⟩
   |succ m ihm=>
    intro j hj a ha hl;have hn:j<ks.length:=by omega
    have ht:ks[j]∈ks:=be9 _;rw[bx9 hn,Tr.cnts] at hl;obtain⟨a1,e1,p1,p2,p3⟩:=ih _ ht (Tr.oks_mem (Tr.okks ok).1 ht) (q1n hfl ht) F (by have:=Tr.fu_mem ht;omega) a ha (by omega);obtain⟨a2,e2,q1,q2,q3⟩:=ihm (j+1) (by omega) a1 p1 (by omega);rw[z6v,q6t hn,cb8,Tr.dec,cb8,e1,cb8,show((j:Int)+1)=((j+1:Nat):Int) from rfl,e2,bx9 hn,Tr.cnts];refine⟨a2,rfl,q1,fun y=>?_,by omega⟩;rw[q2,p2,Tr.lvss];constructor
    ·rintro((h|⟨l,h,e⟩)|⟨l,h,e⟩)
     ·exact .inl h
     ·exact .inr ⟨l,cn8 _ h,e⟩
     ·exact .inr ⟨l,List.mem_append_right _ h,e⟩
    ·rintro(h|⟨l,h,e⟩)
     ·exact .inl (.inl h)
     ·rcases cc8.1 h with h|h
      ·exact .inl (.inr ⟨l,h,e⟩)
      ·exact .inr ⟨l,h,e⟩
  obtain⟨a',e,g1,g2,g3⟩:=hloop ks.length 0 (by omega) a ha (by rw[bv9];omega);rw[bv9] at g2 g3;refine⟨a',e,g1,fun y=>by rw[g2,h3],by omega⟩
def Lf.t(l:Lf):q0c:=⟨l.k,l.nm,l.tx,l.op,l.n,[]⟩
def Lf.row(l:Lf):q6e:=y3a q7a l.t
theorem Lf.dec(l:Lf):q1z q7a l.row=some l.t:=v3z z1u rfl
def abt(t:Tr)(n:Txt):List Lf:=t.lvs.filter fun l=>l.nm==n
theorem j4q(t:Tr)(n:Txt):(abt t n).length<=t.cnt:=bz9 (ab8 _ _) (z5r t)
theorem v1h{t:Tr}{n:Txt}{l:Lf}:l∈abt t n<->l∈t.lvs/\l.nm=n:=by
 unfold abt;rw[cc9,beq_iff_eq]
theorem w7q(nm':Txt)(hne:nm'≠[]):∀t:Tr,t.ok->t.flt=0->∀F,t.fu<=F->∀a:List q6e,a.length+t.cnt<=1000->
  j1z F t.toT nm' a=some (a++(abt t nm').map Lf.row):=Tr.ind fun k nm tx op n ks ih ok hz F hF a hl=>by
 rw[Tr.fu] at hF;rw[Tr.cnt] at hl;obtain⟨hnode,hfl⟩:=q2r hz;obtain⟨F,rfl⟩:∃G,F=G+1:=⟨F - 1,by omega⟩
 show j0e (j1z F) F (Tr.mk k nm tx op n ks).toT nm' a=_
 have hk:=(Tr.okks ok).2
 have hloop:∀m j:Nat,j+m=ks.length->∀a:List q6e,a.length+Tr.cnts (ks.drop j)<=1000->
   q1w (j1z F) F ⟨k,nm,tx,op,n,Tr.toKs ks⟩ nm' (fun(l24:List q6e)=>some l24) m (j:Int) a=some (a++((Tr.lvss (ks.drop j)).filter fun l=>l.nm==nm').map Lf.row):=by
  intro m
  induction m with
  |zero=>
   intro j hj a hl;rw[q1w,an9 (by omega),Tr.lvss];simp
  |succ m ihm=>
   intro j hj a hl;have hn:j<ks.length:=by omega
   have ht:ks[j]∈ks:=be9 _;rw[bx9 hn,Tr.cnts] at hl;have hal:=j4q ks[j] nm';rw[q1w,q6t hn,cb8,Tr.dec,cb8,ih _ ht (Tr.oks_mem (Tr.okks ok).1 ht) (q1n hfl ht) F (by have:=Tr.fu_mem ht;omega) a (by omega),cb8,show((j:Int)+1)=((j+1:Nat):Int) from rfl,ihm (j+1) (by omega) _ (by rw[bj8,bk8];omega),bx9 hn,Tr.lvss,ac8,cs8,ce9];rfl
 rw[Tr.toT,j0e];dsimp only;rcases j4a hz with ⟨h1,h2,_,_,h3⟩|⟨h1,h3⟩
 ·unfold abt;rw[h3];by_cases e:nm=nm'
  ·rw[if_pos (by simpa using e),if_pos (by simp;omega)];subst h2;simp[e,Lf.row,Lf.t,Tr.toKs]
  ·rw[if_neg (by simpa using e),q3c,Tr.toKs_len,if_pos (by omega),show(((ks.length:Nat):Int)).toNat=ks.length by omega];have:=hloop ks.length 0 (by omega) a (by rw[bv9];omega);rw[show((0:Nat):Int)=0 from rfl] at this;rw[this,bv9,h2];simp[e,Tr.lvss]
 ·rw[if_neg (by rw[h1,beq_iff_eq];exact fun h=>hne h.symm),q3c,Tr.toKs_len,if_pos (by omega),show(((ks.length:Nat):Int)).toNat=ks.length by omega];have:=hloop ks.length 0 (by omega) a (by rw[bv9];omega);rw[show((0:Nat):Int)=0 from rfl] at this;unfold abt;rw[this,bv9,h3]
theorem w5w(nm':Txt)(hne:nm'≠[]):∀t:Tr,t.ok->t.flt=0->t.cnt<=60->∀F,t.fu<=F->
  M97 F t.toT nm'=some ((abt t nm').map Lf.row):=fun t=>match t with
 | .mk k nm tx op n ks=>fun ok hz hc F hF=>by
  rw[Tr.fu] at hF;rw[Tr.cnt] at hc;obtain⟨hnode,hfl⟩:=q2r hz;have hk:=(Tr.okks ok).2
  have hloop:∀m j:Nat,j+m=ks.length->∀a:List q6e,a.length+Tr.cnts (ks.drop j)<=1000->
    z0v F ⟨k,nm,tx,op,n,Tr.toKs ks⟩ nm' (fun(l23:List q6e)=>some l23) m (j:Int) a=some (a++((Tr.lvss (ks.drop j)).filter fun l=>l.nm==nm').map Lf.row):=by
   intro m
   induction m with
   |zero=>
    intro j hj a hl;rw[z0v,an9 (by omega),Tr.lvss];simp
   |succ m ihm=>
    intro j hj a hl;have hn:j<ks.length:=by omega
    have ht:ks[j]∈ks:=be9 _;rw[bx9 hn,Tr.cnts] at hl;have hal:=j4q ks[j] nm';rw[z0v,q6t hn,cb8,Tr.dec,cb8,w7q nm' hne _ (Tr.oks_mem (Tr.okks ok).1 ht) (q1n hfl ht) F (by have:=Tr.fu_mem ht;omega) a (by omega),cb8,show((j:Int)+1)=((j+1:Nat):Int) from rfl,ihm (j+1) (by omega) _ (by rw[bj8,bk8];omega),bx9 hn,Tr.lvss,ac8,cs8,ce9];rfl
  rw[Tr.toT,M97];dsimp only;rcases j4a hz with ⟨h1,h2,_,_,h3⟩|⟨h1,h3⟩
  ·unfold abt;rw[h3];by_cases e:nm=nm'
   ·rw[if_pos (by simpa using e),if_pos (by simp)];subst h2;simp[e,Lf.row,Lf.t,Tr.toKs]
   ·rw[if_neg (by simpa using e),q3c,Tr.toKs_len,if_pos (by omega),show(((ks.length:Nat):Int)).toNat=ks.length by omega];have:=hloop ks.length 0 (by omega) [] (by rw[bv9];simp;omega);rw[show((0:Nat):Int)=0 from rfl] at this;rw[this,bv9,h2];simp[e,Tr.lvss]
  ·rw[if_neg (by rw[h1,beq_iff_eq];exact fun h=>hne h.symm),q3c,Tr.toKs_len,if_pos (by omega),show(((ks.length:Nat):Int)).toNat=ks.length by omega];have:=hloop ks.length 0 (by omega) [] (by rw[bv9];simp;omega);rw[show((0:Nat):Int)=0 from rfl] at this;unfold abt;rw[this,bv9,h3];simp
theorem z4y{ls:List Lf}{j:Nat}(h:j<ls.length):idx (ls.map Lf.row) (j:Int)=some ls[j].row:=by
 rw[q5h (by simpa using h)];simp
def uT(ls:List Lf):Bool:=ls.any fun l=>l.k==2||l.k==3
def uN(ls:List Lf):Bool:=ls.any fun l=>l.k==5
def uH(ls:List Lf):Bool:=ls.any fun l=>l.k==4
theorem w4w(F:Nat)(ls:List Lf):M98 F (ls.map Lf.row)=some (uT ls,uN ls,uH ls):=by
 unfold M98;rw[q3c,bk8,show(((ls.length:Nat):Int)).toNat=ls.length by omega]
 have hloop:∀m j:Nat,j+m=ls.length->∀a b c:Bool,z9u F (ls.map Lf.row) (fun(b3:Bool) (b4:Bool) (b5:Bool)=>some (b3,b4,b5)) m (j:Int) a b c=some (a||uT (ls.drop j),b||uN (ls.drop j),c||uH (ls.drop j)):=by
  intro m
  induction m with
  |zero=>
   intro j hj a b c;rw[z9u,an9 (by omega)];simp[uT,uN,uH]
  |succ m ihm=>
   intro j hj a b c;have hn:j<ls.length:=by omega
   have hstep:=fun a b c=>ihm (j+1) (by omega) a b c;rw[show((j+1:Nat):Int)=(j:Int)+1 from rfl] at hstep;rw[z9u,q3c,bx9 hn];simp only[z4y hn,Lf.dec,cb8,hstep];unfold uT uN uH;simp only[cj9];have e:ls[j].t.Kind=ls[j].k:=rfl;rw[e];cases a<;>cases b<;>cases c<;>cases h2:(ls[j].k==2)<;>simp
 have:=hloop ls.length 0 (by omega) false false false;rw[bv9] at this;rw[show((0:Nat):Int)=0 from rfl] at this;rw[this];simp
theorem j7t:∀(ls:List Lf) (all:MpS) (n:Txt),(∀l,l∈ls->2<=l.k/\l.k<=5)->(z1i (ls.foldl j6k all) n).asText=((z1i all n).asText||uT (ls.filter fun l=>l.nm==n))/\(z1i (ls.foldl j6k all) n).asNo=((z1i all n).asNo||uN (ls.filter fun l=>l.nm==n))/\(z1i (ls.foldl j6k all) n).has=((z1i all n).has||uH (ls.filter fun l=>l.nm==n))
 |[],all,n,_=>by simp[uT,uN,uH]
 |l::r,all,n,h=>by
  obtain⟨h1,h2,h3⟩:=j7t r (j6k all l) n fun m hm=>h m (by simp[hm]);have hk:=h l (by simp);rw[by8,h1,h2,h3,z9m,ab9];by_cases e:l.nm=n
  ·rw[if_pos e,if_pos (by simpa using e),e];unfold uT uN uH v8t;simp only[cj9];by_cases k2:l.k=2
   ·simp[k2]
   ·by_cases k3:l.k=3
    ·simp[k3]
    ·by_cases k4:l.k=4
     ·simp[k4]
     ·have k5:l.k=5:=by omega
      simp[k5]
  ·rw[if_neg e,if_neg (by simpa using e)];exact⟨rfl,rfl,rfl⟩
theorem v2o(t:Tr)(hz:t.flt=0)(n:Txt):(z1i (q9r t) n).asText=uT (abt t n)/\(z1i (q9r t) n).asNo=uN (abt t n)/\(z1i (q9r t) n).has=uH (abt t n):=by
 obtain⟨h1,h2,h3⟩:=j7t t.lvs [] n fun l hl=>(z9d t hz l hl).k;unfold q9r abt;rw[h1,h2,h3];exact⟨rfl,rfl,rfl⟩
theorem w1y(ls:List Lf)(n:Txt):wsm ls n=((ls.filter fun l=>l.nm==n).map lw).sum:=by
 unfold wsm
 induction ls with
 |nil=>rfl
 |cons l r ih=>
  rw[bo9,List.sum_cons,ab9,ih];by_cases e:l.nm=n
  ·rw[if_pos e,if_pos (by simpa using e),bo9,List.sum_cons]
  ·rw[if_neg e,if_neg (by simpa using e)];omega
theorem v1a(F:Nat)(ls:List Lf)(k:Int->Option Bool)(hl:∀l,l∈ls->v2b l)(hlen:ls.length<=60):∀(m j:Nat),j+m=ls.length->∀w:Nat,w<=10+100*j->
  q9y F (ls.map Lf.row) k ((ls.drop j).map Lf.row) (j:Int) (w:Int)=k ((w+((ls.drop j).map lw).sum:Nat):Int)
 |0,j,hj,w,hw=>by
  rw[an9 (by omega),ar8,q9y];rfl
 |m+1,j,hj,w,hw=>by
  have hn:j<ls.length:=by omega
  have ho:=hl ls[j] (be9 _);have hk:=ho.k;have hlen2:=ho.len;have hb:=y1p ho;have ih:=fun w hw=>v1a F ls k hl hlen m (j+1) (by omega) w hw;rw[show((j+1:Nat):Int)=(j:Int)+1 from rfl] at ih;rw[bx9 hn,bo9,q9y,bo9,List.sum_cons];simp only[z4y hn,Lf.dec,cb8,q3c]
  show(if (ls[j].k==2)=true then q9y F (ls.map Lf.row) k ((ls.drop (j+1)).map Lf.row) ((j:Int)+1) (w64 ((w:Int)+((ls[j].tx.length:Nat):Int))) else if (ls[j].k==3)=true then q9y F (ls.map Lf.row) k ((ls.drop (j+1)).map Lf.row) ((j:Int)+1) (w64 ((w:Int)+(w64 (2*((ls[j].tx.length:Nat):Int))))) else if (ls[j].k==5)=true then q9y F (ls.map Lf.row) k ((ls.drop (j+1)).map Lf.row) ((j:Int)+1) (w64 ((w:Int)+2)) else q9y F (ls.map Lf.row) k ((ls.drop (j+1)).map Lf.row) ((j:Int)+1) (w:Int))=_
  have fin:∀v:Nat,lw ls[j]=v->∀x:Int,x=((w+v:Nat):Int)->q9y F (ls.map Lf.row) k ((ls.drop (j+1)).map Lf.row) ((j:Int)+1) x=k ((w+(lw ls[j]+((ls.drop (j+1)).map lw).sum):Nat):Int):=by
   intro v hv x hx;rw[hx,ih (w+v) (by omega),hv,ag8]
  unfold lw at fin hb;by_cases k2:ls[j].k=2
  ·rw[if_pos (by rw[k2];rfl)];rw[if_pos k2] at fin hb;rw[fin _ rfl _ (by rw[q9i (by omega) (by omega)];omega)]
   congr 1
   unfold lw;rw[if_pos k2]
  rw[if_neg (by simpa using k2)];rw[if_neg k2] at fin hb;by_cases k3:ls[j].k=3
  ·rw[if_pos (by rw[k3];rfl)];rw[if_pos k3] at fin hb;rw[fin _ rfl _ (by rw[q9i (n:=2*((ls[j].tx.length:Nat):Int)) (by omega) (by omega),q9i (by omega) (by omega)];omega)]
   congr 1
   unfold lw;rw[if_neg k2,if_pos k3]
  rw[if_neg (by simpa using k3)];rw[if_neg k3] at fin hb;by_cases k5:ls[j].k=5
  ·rw[if_pos (by rw[k5];rfl)];rw[if_neg (by omega)] at fin hb;rw[fin _ rfl _ (by rw[q9i (by omega) (by omega)];omega)]
   congr 1
   unfold lw;rw[if_neg k2,if_neg k3,if_neg (by omega)]
  ·rw[if_neg (by simpa using k5)];have k4:ls[j].k=4:=by omega
   rw[if_pos k4] at fin hb;rw[fin _ rfl _ (by omega)]
   congr 1
   unfold lw;rw[if_neg k2,if_neg k3,if_pos k4]
def q1y(w:Txt->Int):List Txt->Int
 |[]=>1
 |n::r=>w n*q1y w r
theorem j0j{w:Txt->Int}{l l':List Txt}(h:l.Perm l'):q1y w l=q1y w l':=by
 induction h with
 |nil=>rfl
 |cons x _ ih=>simp only[q1y,ih]
 |swap x y l=>simp only[q1y];rw[<-Int.mul_assoc,<-Int.mul_assoc,Int.mul_comm (w y)]
 |trans _ _ a b=>exact a.trans b
theorem z9z{w:Txt->Int}:∀{l:List Txt},(∀n,n∈l->2<=w n)->((2 ^ l.length:Nat):Int)<=q1y w l
 |[],_=>by simp[q1y]
 |n::r,h=>by
  have h1:=h n (by simp);have h2:=z9z (l:=r) fun m hm=>h m (by simp[hm])
  have h3:(1:Int)<=((2 ^ r.length:Nat):Int):=by
   have:=Nat.one_le_two_pow (n:=r.length);omega
  rw[q1y,ca9,Nat.pow_succ,aq8];have:=Int.mul_le_mul h1 h2 (by omega) (by omega);rw[Int.natCast_mul];exact this
theorem v1w{w:Txt->Int}{l:List Txt}(h:∀n,n∈l->2<=w n):1<=q1y w l:=by
 have h1:=z9z h;have:=Nat.one_le_two_pow (n:=l.length);omega
def wtN(t:Tr)(n:Txt):Int:=wtS (z1i (q9r t) n)
theorem j9l{t:Tr}(hz:t.flt=0)(hc:t.cnt<=60)(n:Txt):wsm t.lvs n<=6000:=by
 have:=v3t (z9d t hz) n;have:=z5r t;omega
theorem v9b{t:Tr}(hz:t.flt=0)(hc:t.cnt<=60)(n:Txt):2<=wtN t n/\wtN t n<=6003:=by
 have h1:=((j2x t hz hc).ok n).wt;have h2:=j9l hz hc n;unfold wtN wtS;split<;>omega
theorem w3e{t:Tr}(hz:t.flt=0)(hc:t.cnt<=60){p:Txt×Option q4a}(hp:p∈q9r t):p.2=some (z1i (q9r t) p.1):=by
 have hg:=j2x t hz hc;have h1:=w2l hg.kn hp;rw[hg.sm p.1 (bq8 hp)] at h1;exact(aj9 h1).symm
theorem y6a{t:Tr}(hz:t.flt=0)(hc:t.cnt<=60):z3i (q9r t)=q1y (wtN t) ((q9r t).map (·.1)):=by
 have:∀l:MpS,(∀p,p∈l->p∈q9r t)->z3i l=q1y (wtN t) (l.map (·.1)):=by
  intro l
  induction l with
  |nil=>intro _;rfl
  |cons p r ih=>
   intro h;rw[z3i,bo9,q1y,ih fun q hq=>h q (by simp[hq])]
   congr 1
   unfold wtP;rw[w3e hz hc (h p (by simp))];rfl
 exact this _ fun _ h=>h
theorem y1b{t:Tr}(hz:t.flt=0)(hc:t.cnt<=60):(q9r t).all okW=true:=by
 rw[as8];intro p hp;have h1:=((j2x t hz hc).ok p.1).wt;have h2:=j9l hz hc p.1;unfold okW;rw[w3e hz hc hp];exact decide_eq_true ⟨by omega,by omega⟩
noncomputable def v4q(t:Tr):Bool:=decide (q1y (wtN t) (z4n t)<=200000)
theorem y8e(F:Nat){t:Tr}(hz:t.flt=0)(hc:t.cnt<=60):M34 F (q9r t)=some (v4q t):=by
 unfold M34 v4q;rw[z5q F _ 1 ⟨by omega,by omega⟩ (y1b hz hc),y6a hz hc,Int.one_mul];unfold z4n;rw[j0j (q5m ((q9r t).map (·.1)))]
theorem w2b{t:Tr}(hz:t.flt=0)(hc:t.cnt<=60)(h:v4q t=true):(z4n t).length<=17:=by
 have h1:=z9z (w:=wtN t) (l:=z4n t) fun n _=>(v9b hz hc n).1;have h2:=of_decide_eq_true h;rcases bu9 17 (z4n t).length with h3|h3
 ·have:=Nat.pow_le_pow_right (n:=2) (by omega) h3;omega
 ·exact h3
theorem v8w{t:Tr}(hz:t.flt=0)(hc:t.cnt<=60){n:Txt}(h:n∈z4n t):n≠[]:=by
 obtain⟨l,hl,e⟩:=(z0h hz hc).1 h;exact e ▸ v7j (z9d t hz l hl).nm
theorem w7w(t:Tr)(ok:t.ok)(hz:t.flt=0)(hc:t.cnt<=60)(F:Nat)(hF:t.fu+2000<=F):
  ∃ns,M51 F t.toT []=some ns/\Srt ns/\ns.Perm (z4n t):=by
 obtain⟨ns,e,h1,h2,_⟩:=y2v t ok hz F hF [] (by simp) (by simp;omega);refine⟨ns,e,h1,(List.perm_ext_iff_of_nodup (h1.imp w0d) (j2j hz hc)).2 fun y=>?_⟩;rw[h2,z0h hz hc];simp
theorem v2a(F:Nat)(t:Tr)(ok:t.ok)(hz:t.flt=0)(hc:t.cnt<=60)(hF:t.fu+2000<=F)(ns:List Txt)(hns:∀n,n∈ns->n≠[])(hlen:ns.length<=60):
  ∀(fuel j:Nat),ns.length<fuel+j->j<=ns.length->∀p:Int,1<=p->p<=200000*7000->
  z7f F t.toT ns (fun(n5:Int)=>some (decide (n5>200000))) fuel p (j:Int)=some (decide (200000<p*q1y (wtN t) (ns.drop j)))
 |0,j,h,h2,p,_,_=>by omega
 |fuel+1,j,h,h2,p,hp1,hp2=>by
  rw[z7f];have hpos:1<=q1y (wtN t) (ns.drop j):=v1w fun n _=>(v9b hz hc n).1;by_cases hj:j<ns.length
  ·rw[if_pos (decide_eq_true (by omega))];by_cases hp:p<=200000
   ·rw[if_pos (decide_eq_true hp),q3c,q5h hj,cb8,w5w ns[j] (hns _ (be9 _)) t ok hz hc F (by omega),cb8,q3c];have hlo:∀l,l∈abt t ns[j]->v2b l:=fun l hl=>z9d t hz l (v1h.1 hl).1;have hab:=j4q t ns[j]
    have hw:=v1a F (abt t ns[j]) (fun n19=>(M98 F ((abt t ns[j]).map Lf.row)).bind fun y43=>if (y43.2.2)=true then z7f F t.toT ns (fun(n5:Int)=>some (decide (n5>200000))) fuel (w64 (p*(w64 (n19+1)))) (w64 ((j:Int)+1))
     else if (y43.1)=true then jn (fun(n48:Int)=>z7f F t.toT ns (fun(n5:Int)=>some (decide (n5>200000))) fuel (w64 (p*n48)) (w64 ((j:Int)+1))) (fun k47=>if (y43.2.1)=true then k47 (w64 (n19+1))
     else k47 n19)
     else z7f F t.toT ns (fun(n5:Int)=>some (decide (n5>200000))) fuel (w64 (p*n19)) (w64 ((j:Int)+1))) hlo (by omega) (abt t ns[j]).length 0 (by omega) 2 (by omega)
    rw[bv9] at hw;rw[show((0:Nat):Int)=0 from rfl,show((2:Nat):Int)=2 from rfl] at hw;rw[hw,w4w,cb8,q3c];dsimp only;have hsm:((abt t ns[j]).map lw).sum=wsm t.lvs ns[j]:=(w1y _ _).symm;rw[hsm];have h6:=j9l hz hc ns[j];have hwt:=((j2x t hz hc).ok ns[j]).wt;obtain⟨f1,f2,f3⟩:=v2o t hz ns[j]
    have fin:∀x:Int,x=wtN t ns[j]->z7f F t.toT ns (fun(n5:Int)=>some (decide (n5>200000))) fuel (w64 (p*x)) (w64 ((j:Int)+1))=some (decide (200000<p*q1y (wtN t) (ns.drop j))):=by
     intro x hx;obtain⟨r1,r2⟩:=v9b hz hc ns[j];have q1:1*1<=p*x:=Int.mul_le_mul hp1 (by omega) (by omega) (by omega);have q2:p*x<=200000*6003:=Int.mul_le_mul hp (by omega) (by omega) (by omega);rw[q9i (n:=p*x) (by omega) (by omega),q9i (n:=(j:Int)+1) (by omega) (by omega),show((j:Int)+1)=((j+1:Nat):Int) from rfl,v2a F t ok hz hc hF ns hns hlen fuel (j+1) (by omega) (by omega) _ (by omega) (by omega),bx9 hj,q1y,hx,Int.mul_assoc]
    unfold wtN wtS at fin;rw[f1,f2,f3,hwt] at fin;cases e3:uH (abt t ns[j]) with
    |true=>
     rw[if_pos rfl];exact fin _ (by rw[e3,Bool.true_or,if_pos rfl,q9i (by omega) (by omega)];omega)
    |false=>
     rw[if_neg (by simp)];cases e1:uT (abt t ns[j]) with
     |true=>
      rw[if_pos rfl];cases e2:uN (abt t ns[j]) with
      |true=>
       rw[if_pos rfl];exact fin _ (by rw[e3,e1,e2,if_pos (by rfl),q9i (by omega) (by omega)];omega)
      |false=>
       rw[if_neg (by simp)];exact fin _ (by rw[e3,e1,e2,if_neg (by simp)];omega)
     |false=>
      rw[if_neg (by simp)];exact fin _ (by rw[e3,e1,if_neg (by simp)];omega)
   ·rw[if_neg (by simpa using hp)];have:p*1<=p*q1y (wtN t) (ns.drop j):=Int.mul_le_mul_of_nonneg_left hpos (by omega);rw[decide_eq_true (by omega),decide_eq_true (by omega)]
  ·rw[if_neg (by simp;omega),an9 (by omega),q1y,Int.mul_one]
theorem y6v(t:Tr)(ok:t.ok)(hz:t.flt=0)(hc:t.cnt<=60)(F:Nat)(hF:t.fu+2000<=F):M40 F t.toT=some (!v4q t):=by
 obtain⟨ns,e,h1,h2⟩:=w7w t ok hz hc F hF;have hl:=v3j hz hc;have hlen:ns.length<=60:=by rw[h2.length_eq];omega
 unfold M40 v4q;rw[e,cb8,q3c,show(0:Int)=((0:Nat):Int) from rfl,v2a F t ok hz hc hF ns (fun n hn=>v8w hz hc (h2.mem_iff.1 hn)) hlen F 0 (by omega) (by omega) 1 (by omega) (by omega),bv9,Int.one_mul,j0j h2]
 congr 1
 by_cases h:q1y (wtN t) (z4n t)<=200000
 ·rw[decide_eq_true h,decide_eq_false (by omega)];rfl
 ·rw[decide_eq_false h,decide_eq_true (by omega)];rfl
theorem y8d{n:Nat}{bg:List Txt}{x:Txt}{c:UInt8}(h:bgn n bg x=false)(hn:n<=x.length):bgn n bg (x++[c])=decide (x++[c]∈bg):=by
 by_cases hm:x++[c]∈bg
 ·rw[decide_eq_true hm];unfold bgn;rw[cj8];exact⟨_,hm,by rw[as9,decide_eq_true_eq,z8k];exact⟨by simp;omega,List.prefix_refl _⟩⟩
 ·rw[decide_eq_false hm];rw[q8r] at h ⊢;intro b hb hl hp;rcases List.prefix_concat_iff.1 hp with e|hp
  ·exact hm (e ▸ hb)
  ·exact h b hb hl hp
theorem j8k(F:Nat)(n0:Nat)(a2:List Txt)(x:Txt)(k:List Txt->Option (Txt×Bool))(h2:Srt a2)(hl2:a2.length<=100000)(hF:a2.length<F)(hx:x.length<1000)(hb:bgn n0 a2 x=false)(hn:n0<=x.length):∀(d c:Nat),c+d=127->32<=c->∀fuel,d<fuel->∀l:List Txt,l.length+d<=100000000->
  q2x F a2 x k fuel (c:Int) l=k (l++q5r n0 a2 x c)
 |0,c,hc,h32,fuel,hf,l,hl=>by
  obtain⟨fuel,rfl⟩:∃g,fuel=g+1:=⟨fuel - 1,by omega⟩
  have:q5r n0 a2 x c=[]:=by
   unfold q5r;rw[show 127 - c=0 by omega];rfl
  rw[q2x,if_neg (by simp;omega),this];simp
 |d+1,c,hc,h32,fuel,hf,l,hl=>by
  obtain⟨fuel,rfl⟩:∃g,fuel=g+1:=⟨fuel - 1,by omega⟩;have hw:=v8h ⟨c,by omega⟩;dsimp only at hw;have hch:(([(c:Int)]:List Int).map fun n=>UInt8.ofNat n.toNat)=[UInt8.ofNat c]:=rfl;rw[q2x,if_pos (decide_eq_true (by omega)),if_pos (decide_eq_true (by omega)),hch,if_pos (by simp;omega),w6w F a2 _ (by omega) h2 hF,cb8,q3c,hw,j6j (by omega),y8d hb hn];have ih:=j8k F n0 a2 x k h2 hl2 hF hx hb hn d (c+1) (by omega) (by omega) fuel (by omega);rw[show((c+1:Nat):Int)=(c:Int)+1 by omega] at ih;by_cases hm:x++[UInt8.ofNat c]∈a2
  ·rw[decide_eq_true hm,if_neg (by simp),if_pos rfl];dsimp only;rw[ih l (by omega)];simp
  ·rw[decide_eq_false hm,if_pos (by simp),if_neg (show ¬(false=true) by simp),if_pos (by simp;omega)];dsimp only;rw[ih _ (by simp;omega),ce9]
theorem v0b(F:Nat)(a2:List Txt)(x:Txt)(k:List Txt->Option (Txt×Bool))(hx:¬x.length<1000)(fuel:Nat)(hf:0<fuel)(l:List Txt):q2x F a2 x k fuel 32 l=k l:=by
 obtain⟨fuel,rfl⟩:∃g,fuel=g+1:=⟨fuel - 1,by omega⟩;rw[q2x,if_pos (by decide),if_neg (by simp;omega)]
structure Qr(a1:Txt)(a2 a3:List Txt)(l:List Txt)(n:Nat):Prop where
 nd:l.Nodup
 hd:l[0]? = some a1
 ok:∀q,q∈l->a1 <+: q/\okT q/\bgn a1.length a2 q=false
 par:∀j q,l[j]? = some q->0<j->∃i p c,i<n/\l[i]? = some p/\q=p++[c]
 cl:∀j q,j<n->l[j]? = some q->q∈a3/\(q.length<1000->∀y,y∈q5r a1.length a2 q 32->y∈l)
 ln:l.length<=1+95*n
theorem Qr.len{a1:Txt}{a2 a3 l:List Txt}{n:Nat}(h:Qr a1 a2 a3 l n)(hn:n<=l.length):n<=a3.length:=by
 have:=z6n (l:=l.take n) (m:=a3) (h.nd.sublist (List.take_sublist _ _)) fun y hy=>by
  obtain⟨j,hj,e⟩:=bl9 hy;rw[List.getElem_take] at e;rw[bl8] at hj;exact(h.cl j y (by omega) (by rw[bb9 (by omega),e])).1
 rw[bl8] at this;omega
theorem z9s(F:Nat)(a1:Txt)(a2 a3:List Txt)(k4:Option (Txt×Bool))(h2:Srt a2)(h3:Srt a3)(hF:200<=F)(hF2:a2.length<F)(hF3:a3.length<F)(ha2:a2.length<=100000)(ha:a3.length<=100000):∀(fuel n:Nat) (l:List Txt),Qr a1 a2 a3 l n->n<=l.length->a3.length+2<=n+fuel->
  (∃t,z0b F a2 a3 k4 fuel (l.drop n)=some (t,true)/\q8p a3 a2 a1 t)\/(z0b F a2 a3 k4 fuel (l.drop n)=k4/\∃l',Qr a1 a2 a3 l' l'.length)
 |0,n,l,h,hn,hf=>by have:=h.len hn;omega
 |fuel+1,n,l,h,hn,hf=>by
  have hll:=h.len hn;have hln:=h.ln;rw[z0b];by_cases hnl:n<l.length
  ·have hd:l.drop n=l[n]::l.drop (n+1):=bx9 hnl;have hx:l[n]? = some l[n]:=bb9 hnl;obtain⟨x,hxe⟩:∃x,x=l[n]:=⟨_,rfl⟩;rw[<-hxe] at hx hd;have hxm:=ba9 hx;obtain⟨o1,o2,o3⟩:=h.ok x hxm;rw[if_pos (decide_eq_true (by rw[hd];simp)),q3c,hd,show idx (x::l.drop (n+1)) 0=some x from rfl,cb8,if_pos (by simp),w6w F a3 x (by omega) h3 hF3,cb8,List.drop_succ_cons,bv9];by_cases hx3:x∈a3
   ·rw[decide_eq_true hx3,if_neg (by simp),q3c];have hxl:x.length<=1000:=o2.1;by_cases h1000:x.length<1000
    ·have hin:=j8k F a1.length a2 x (fun l17=>(fun l9=>z0b F a2 a3 k4 fuel l9) l17) h2 ha2 hF2 h1000 o3 o1.length_le 95 32 rfl (by omega) F (by omega) (l.drop (n+1)) (by rw[ao9];omega);rw[show((32:Nat):Int)=32 from rfl] at hin;rw[hin];dsimp only
     have hok:∀y,y∈q5r a1.length a2 x 32->a1 <+: y/\okT y/\bgn a1.length a2 y=false:=by
      intro y hy;obtain⟨⟨c,c1,c2,rfl⟩,hb⟩:=q7v.1 hy;refine⟨o1.trans (List.prefix_append _ _),⟨by simp;omega,fun d hd=>?_⟩,hb⟩;rcases cc8.1 hd with hd|hd
      ·exact o2.2 d hd
      ·simp only[bp9] at hd;subst hd;exact⟨c1,c2⟩
     have hkl:=w8l a1.length a2 x;rw[show l.drop (n+1)++q5r a1.length a2 x 32=(l++q5r a1.length a2 x 32).drop (n+1) by rw[List.drop_append_of_le_length (by omega)]];refine z9s F a1 a2 a3 k4 h2 h3 hF hF2 hF3 ha2 ha fuel (n+1) (l++q5r a1.length a2 x 32) ⟨?_,?_,fun q hq=>?_,fun j q hj h0=>?_,fun j q hj hq=>?_,by rw[bj8];omega⟩ (by simp;omega) (by omega)
     ·rw[cd9];refine⟨h.nd,j5j _ _ _,fun a hal b hbk e=>?_⟩;subst e;obtain⟨⟨c,c1,c2,rfl⟩,hb⟩:=q7v.1 hbk;obtain⟨j,hj⟩:=be8 hal;by_cases h0:j=0
      ·subst h0;rw[h.hd] at hj;have:=congrArg List.length (aj9 hj);have:=o1.length_le;simp at *;omega
      ·obtain⟨i,p,d,g2,g3,g4⟩:=h.par j _ hj (by omega);have e2:=List.append_inj' g4 rfl;rw[<-e2.1] at g3;have hi:i<l.length:=(bf9.1 g3).1;have:=(List.getElem?_inj hi h.nd).1 (g3.trans hx.symm);omega
     ·rw[av9 (by have:=(bf9.1 h.hd).1;omega)];exact h.hd
     ·rcases cc8.1 hq with hq|hq
      ·exact h.ok q hq
      ·exact hok q hq
     ·by_cases hjl:j<l.length
      ·rw[av9 hjl] at hj;obtain⟨i,p,c,g2,g3,g4⟩:=h.par j q hj h0;exact⟨i,p,c,by omega,by rw[av9 (by have:=(bf9.1 g3).1;omega)];exact g3,g4⟩
      ·rw[av8 (by omega)] at hj;have hq:=ba9 hj;obtain⟨⟨c,c1,c2,rfl⟩,hb⟩:=q7v.1 hq;exact⟨n,x,c,by omega,by rw[av9 hnl];exact hx,rfl⟩
     ·by_cases e:j=n
      ·subst e;rw[av9 hnl,hx] at hq;cases hq;exact⟨hx3,fun _ y hy=>List.mem_append_right _ hy⟩
      ·rw[av9 (by omega)] at hq;obtain⟨g1,g2⟩:=h.cl j q (by omega) hq;exact⟨g1,fun hl y hy=>cn8 _ (g2 hl y hy)⟩
    ·rw[v0b F a2 x _ h1000 F (by omega)];dsimp only;refine z9s F a1 a2 a3 k4 h2 h3 hF hF2 hF3 ha2 ha fuel (n+1) l ⟨h.nd,h.hd,h.ok,fun j q hj h0=>?_,fun j q hj hq=>?_,by omega⟩ hnl (by omega)
     ·obtain⟨i,p,c,g2,g3⟩:=h.par j q hj h0;exact⟨i,p,c,by omega,g3⟩
     ·by_cases e:j=n
      ·subst e;rw[hx] at hq;cases hq;exact⟨hx3,fun hl=>by omega⟩
      ·exact h.cl j q (by omega) hq
   ·rw[decide_eq_false hx3,if_pos (by simp)];exact .inl ⟨x,rfl,o1,o2,hx3,q8r.1 o3⟩
  ·rw[if_neg (by simp;omega)];have:n=l.length:=by omega
   subst this;exact .inr ⟨rfl,l,h⟩
theorem Qr.none{a1:Txt}{a2 a3 l:List Txt}(h:Qr a1 a2 a3 l l.length)(t:Txt):¬q8p a3 a2 a1 t:=by
 intro hf
 have key:∀k,a1.length+k<=t.length->t.take (a1.length+k)∈l:=by
  intro k
  induction k with
  |zero=>
   intro _;rw[bh8,<-List.prefix_iff_eq_take.1 hf.pre];exact ba9 h.hd
  |succ k ih=>
   intro hk;have hp:=ih (by omega);obtain⟨j,hj⟩:=be8 hp;have hlt:a1.length+k<t.length:=by omega
   obtain⟨_,g⟩:=h.cl j _ (bf9.1 hj).1 hj;have hlen:(t.take (a1.length+k)).length<1000:=by have:=hf.ok.1;simp;omega
   refine g hlen _ (q7v.2 ⟨⟨t[a1.length+k],?_,?_,?_⟩,q8r.2 fun b hb hl hp=>?_⟩)
   ·exact(hf.ok.2 _ (be9 hlt)).1
   ·exact(hf.ok.2 _ (be9 hlt)).2
   ·rw[show a1.length+(k+1)=(a1.length+k)+1 by omega,List.take_succ_eq_append_getElem hlt]
   ·exact hf.no b hb hl (hp.trans (List.take_prefix _ _))
 have hle:=hf.pre.length_le;have:=key (t.length - a1.length) (by omega);rw[show a1.length+(t.length - a1.length)=t.length by omega,List.take_length] at this;obtain⟨j,hj⟩:=be8 this;exact hf.not (h.cl j t (bf9.1 hj).1 hj).1
theorem y1g(F:Nat)(a1:Txt)(a2 a3:List Txt)(h2:Srt a2)(h3:Srt a3)(hF2:a2.length<F)(hF:a3.length+200<=F)(ha2:a2.length<=100000)(ha:a3.length<=100000)(h1:okT a1):
  (∃t,y2g F a1 a2 a3=some (t,true)/\q8p a3 a2 a1 t)\/(y2g F a1 a2 a3=some ([],false)/\∀t,¬q8p a3 a2 a1 t):=by
 have hb:bgn a1.length a2 a1=false:=q8r.2 fun b _ hl hp=>by have:=hp.length_le;omega
 have h0:Qr a1 a2 a3 [a1] 0:=⟨by simp,rfl,fun q hq=>by simp only[bp9] at hq;subst hq;exact⟨List.prefix_refl _,h1,hb⟩,fun j q hj h0=>by
  obtain⟨j,rfl⟩:∃i,j=i+1:=⟨j - 1,by omega⟩;simp at hj,fun j q hj=>by omega,by simp⟩
 rcases z9s F a1 a2 a3 (some ([],false)) h2 h3 (by omega) hF2 (by omega) ha2 ha F 0 [a1] h0 (by simp) (by omega) with ⟨t,e,hf⟩|⟨e,l',hl⟩
 ·rw[bv9] at e;exact .inl ⟨t,by unfold y2g;rw[q3c];exact e,hf⟩
 ·rw[bv9] at e;exact .inr ⟨by unfold y2g;rw[q3c];exact e,hl.none⟩
def y8p(ls:List Lf)(x:Txt):Prop:=∃l,l∈ls/\l.k=2/\x∈l.tx
def y7s(ls:List Lf)(x:Txt):Prop:=∃l,l∈ls/\l.k≠2/\x∈l.tx
theorem z3t(F:Nat)(ls:List Lf)(j:Nat)(hj:j<ls.length)(k:List Txt->List Txt->Option (List Txt))(hF:20000<=F)(htx:ls[j].tx.length<=50):∀(fuel i:Nat),ls[j].tx.length<fuel+i->i<=ls[j].tx.length->∀A B:List Txt,Srt A->Srt B->A.length+B.length+(ls[j].tx.length - i)<=10000->
  ∃A' B',z8l F (ls.map Lf.row) (j:Int) k fuel A B (i:Int)=k A' B'/\Srt A'/\Srt B'/\(∀x,x∈A'<->x∈A\/(ls[j].k=2/\x∈ls[j].tx.drop i))/\(∀x,x∈B'<->x∈B\/(ls[j].k≠2/\x∈ls[j].tx.drop i))/\A'.length+B'.length<=A.length+B.length+(ls[j].tx.length - i)
 |0,i,h,h2,A,B,_,_,_=>by omega
 |fuel+1,i,h,h2,A,B,hA,hB,hl=>by
  rw[z8l];simp only[z4y hj,Lf.dec,cb8]
  show ∃A' B',(if (decide ((i:Int)<((ls[j].tx.length:Nat):Int)))=true then _ else _)=_/\_
  by_cases hi:i<ls[j].tx.length
  ·rw[if_pos (decide_eq_true (by omega)),q3c];have hix:idx ls[j].t.Texts (i:Int)=some ls[j].tx[i]:=q5h hi;rw[hix];simp only[cb8];have hw:w64 ((i:Int)+1)=((i+1:Nat):Int):=by rw[q9i (by omega) (by omega)];rfl
   rw[hw,show ls[j].t.Kind=ls[j].k from rfl];by_cases k2:ls[j].k=2
   ·rw[if_pos (by rw[k2];rfl)];obtain⟨A1,e1,p1,p2,p3⟩:=j8q F A ls[j].tx[i] (by omega) hA (by omega);obtain⟨A',B',g1,g2,g3,g4,g5,g6⟩:=z3t F ls j hj k hF htx fuel (i+1) (by omega) (by omega) A1 B p1 hB (by omega);refine⟨A',B',by rw[e1];exact g1,g2,g3,fun x=>?_,fun x=>?_,by omega⟩
    ·rw[g4,p2,bx9 hi,at8];constructor
     ·rintro((h|h)|h)
      ·exact .inr ⟨k2,.inl h⟩
      ·exact .inl h
      ·exact .inr ⟨k2,.inr h.2⟩
     ·rintro(h|⟨_,h|h⟩)
      ·exact .inl (.inr h)
      ·exact .inl (.inl h)
      ·exact .inr ⟨k2,h⟩
    ·rw[g5];exact or_congr Iff.rfl ⟨fun h=>absurd k2 h.1,fun h=>absurd k2 h.1⟩
   ·rw[if_neg (by simpa using k2)];obtain⟨B1,e1,p1,p2,p3⟩:=j8q F B ls[j].tx[i] (by omega) hB (by omega);obtain⟨A',B',g1,g2,g3,g4,g5,g6⟩:=z3t F ls j hj k hF htx fuel (i+1) (by omega) (by omega) A B1 hA p1 (by omega);refine⟨A',B',by rw[e1];exact g1,g2,g3,fun x=>?_,fun x=>?_,by omega⟩
    ·rw[g4];exact or_congr Iff.rfl ⟨fun h=>absurd h.1 k2,fun h=>absurd h.1 k2⟩
    ·rw[g5,p2,bx9 hi,at8];constructor
     ·rintro((h|h)|h)
      ·exact .inr ⟨k2,.inl h⟩
      ·exact .inl h
      ·exact .inr ⟨k2,.inr h.2⟩
     ·rintro(h|⟨_,h|h⟩)
      ·exact .inl (.inr h)
      ·exact .inl (.inl h)
      ·exact .inr ⟨k2,h⟩
  ·rw[if_neg (by simp;omega)];have:ls[j].tx.drop i=[]:=an9 (by omega);exact⟨A,B,rfl,hA,hB,fun x=>by rw[this];simp,fun x=>by rw[this];simp,by omega⟩
theorem j1l(F:Nat)(ls:List Lf)(k:List Txt->List Txt->Option (List Txt))(hF:20000<=F)(htx:∀l,l∈ls->l.tx.length<=50):∀(m j:Nat),j+m=ls.length->∀A B:List Txt,Srt A->Srt B->A.length+B.length+50*m<=10000->
  ∃A' B',z3b F (ls.map Lf.row) k m (j:Int) A B=k A' B'/\Srt A'/\Srt B'/\(∀x,x∈A'<->x∈A\/y8p (ls.drop j) x)/\(∀x,x∈B'<->x∈B\/y7s (ls.drop j) x)/\A'.length+B'.length<=A.length+B.length+50*m
 |0,j,hj,A,B,hA,hB,hl=>by
  rw[z3b,an9 (by omega)];exact⟨A,B,rfl,hA,hB,fun x=>by simp[y8p],fun x=>by simp[y7s],by omega⟩
 |m+1,j,hj,A,B,hA,hB,hl=>by
  have hn:j<ls.length:=by omega
  have ht:=htx ls[j] (be9 _);rw[z3b,q3c,q3c];obtain⟨A1,B1,e1,p1,p2,p3,p4,p5⟩:=z3t F ls j hn (fun l16 l17=>(fun l13 l14=>z3b F (ls.map Lf.row) k m ((j:Int)+1) l13 l14) l16 l17) hF ht F 0 (by omega) (by omega) A B hA hB (by omega);obtain⟨A',B',g1,g2,g3,g4,g5,g6⟩:=j1l F ls k hF htx m (j+1) (by omega) A1 B1 p1 p2 (by omega);rw[show((0:Nat):Int)=0 from rfl] at e1;refine⟨A',B',e1.trans g1,g2,g3,fun x=>?_,fun x=>?_,by omega⟩
  ·rw[g4,p3,bv9,bx9 hn];unfold y8p;simp only[at8,exists_eq_or_imp,or_assoc]
  ·rw[g5,p4,bv9,bx9 hn];unfold y7s;simp only[at8,exists_eq_or_imp,or_assoc]
theorem z2t(F:Nat)(is bg:List Txt)(hi:Srt is)(hb:Srt bg)(hF:20000<=F)(hl1:is.length<=10000)(hl2:bg.length<=10000)(k:List Txt->Option (List Txt)):∀(l acc:List Txt),(∀p,p∈l->okT p)->acc.length+l.length<=1000000->
  ∃fs,z2b F is bg k l acc=k (acc++fs)/\fs.length<=l.length/\(∀p,p∈l->(∃t,q8p is bg p t/\t∈fs)\/∀t,¬q8p is bg p t)/\∀x,x∈fs->∃p,q8p is bg p x
 |[],acc,_,_=>⟨[],by rw[z2b];simp,ae8 _,by simp,by simp⟩
 |p::l,acc,h,hl=>by
  simp only[ca9] at hl;rw[z2b];rcases y1g F p bg is hb hi (by omega) (by omega) (by omega) (by omega) (h p (by simp)) with ⟨t,e,hf⟩|⟨e,hf⟩
  ·obtain⟨fs,g1,g2,g3,g4⟩:=z2t F is bg hi hb hF hl1 hl2 k l (acc++[t]) (fun q hq=>h q (by simp[hq])) (by simp;omega);refine⟨t::fs,?_,by simp;omega,fun q hq=>?_,fun x hx=>?_⟩
   ·rw[e,cb8,q3c];dsimp only;rw[if_pos rfl,if_pos (by simp;omega),g1];simp
   ·rcases at8.1 hq with e2|hq
    ·subst e2;exact .inl ⟨t,hf,by simp⟩
    ·rcases g3 q hq with ⟨u,h1,h2⟩|h1
     ·exact .inl ⟨u,h1,by simp[h2]⟩
     ·exact .inr h1
   ·rcases at8.1 hx with e2|hx
    ·subst e2;exact⟨p,hf⟩
    ·exact g4 x hx
  ·obtain⟨fs,g1,g2,g3,g4⟩:=z2t F is bg hi hb hF hl1 hl2 k l acc (fun q hq=>h q (by simp[hq])) (by omega);refine⟨fs,?_,by simp;omega,fun q hq=>?_,g4⟩
   ·rw[e,cb8,q3c];dsimp only;rw[if_neg (by decide),g1]
   ·rcases at8.1 hq with e2|hq
    ·subst e2;exact .inr hf
    ·exact g3 q hq
theorem y7g(F:Nat)(ls:List Lf)(hF:20000<=F)(hlo:∀l,l∈ls->v2b l)(hlen:ls.length<=60):
  ∃is bg out,y8g F (ls.map Lf.row)=some out/\(∀x,x∈is<->y8p ls x)/\(∀x,x∈bg<->y7s ls x)/\y8t is bg out/\out.length<=4000:=by
 unfold y8g;rw[q3c,bk8,show(((ls.length:Nat):Int)).toNat=ls.length by omega];obtain⟨is,bg,e,h1,h2,h3,h4,h5⟩:=j1l F ls (fun(l3:List B8) (l4:List B8)=>if l3.length*16<=140737488355328 then (w0r F l4 ([]:B8)).bind fun y55=>jn (fun(l58:List B8)=>some l58) (fun k57=>z2b F l3 l4 k57 y55 l3) else none) hF (fun l hl=>(hlo l hl).len) ls.length 0 (by omega) [] [] (by simp) (by simp) (by simp;omega);simp only[bt8,ch8,bv9,List.not_mem_nil,false_or] at h3 h4 h5;rw[show((0:Nat):Int)=0 from rfl] at e;obtain⟨b2,e2,q1,q2,q3⟩:=j8q F bg [] (by omega) h2 (by omega)
 have hbo:∀b,b∈bg->okT b:=fun b hb=>by
  obtain⟨l,hl,_,hx⟩:=(h4 b).1 hb;exact(hlo l hl).tx b hx
 have h0:okT []:=⟨by simp,by simp⟩;obtain⟨fs,g1,g2,g3,g4⟩:=z2t F is bg h1 h2 hF (by omega) (by omega) (fun l58=>some l58) b2 is (fun p hp=>((q2 p).1 hp).elim (fun e=>e ▸ h0) (hbo p)) (by omega);refine⟨is,bg,is++fs,?_,h3,h4,⟨fun e he=>cn8 _ he,fun p hp=>?_,fun x hx=>?_⟩,by rw[bj8];omega⟩
 ·rw[e,if_pos (by omega),e2,cb8,q3c];exact g1
 ·rcases g3 p ((q2 p).2 hp.symm) with ⟨t,a,b⟩|h
  ·exact .inl ⟨t,a,List.mem_append_right _ b⟩
  ·exact .inr h
 ·rcases cc8.1 hx with hx|hx
  ·exact .inl hx
  ·obtain⟨p,hp⟩:=g4 x hx;exact .inr hp.ok
end Go.Proofs.YtelmfadihfcgnaaGreatDoor
