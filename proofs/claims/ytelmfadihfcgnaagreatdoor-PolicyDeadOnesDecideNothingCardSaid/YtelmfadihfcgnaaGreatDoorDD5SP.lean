/- Part of the proof: D5Ord, D5QK, D5PG, D5PH, D5PI, D5SP. -/
import Derived.Test.YtelmfadihfcgnaaGreatDoorDD5M
import Derived.Test.YtelmfadihfcgnaaGreatDoorDD5PB
import Derived.Test.YtelmfadihfcgnaaGreatDoorDD5QJ
import Derived.Test.YtelmfadihfcgnaaGreatDoorDD5QC
namespace Go.Proofs.YtelmfadihfcgnaaGreatDoor
open Go Go.Pv
set_option linter.unusedVariables false
def okW(p:(List UInt8)×(Option Tpolicy_subject)):Bool:=match p.2 with|some s=>decide (1<=s.weight/\s.weight<=1000000000000)|none=>false
def wtS(s:Tpolicy_subject):Int:=if (s.has||(s.asText&&s.asNo))=true then s.weight+1 else s.weight
def wtP(p:(List UInt8)×(Option Tpolicy_subject)):Int:=match p.2 with|some s=>wtS s|none=>1
def prodW:List ((List UInt8)×(Option Tpolicy_subject))->Int
 |[]=>1
 |p::l=>wtP p*prodW l
theorem prodW_perm{l l':List ((List UInt8)×(Option Tpolicy_subject))}(h:l.Perm l'):prodW l=prodW l':=by
 induction h with
 |nil=>rfl
 |cons x _ ih=>simp only[prodW,ih]
 |swap x y l=>simp only[prodW];rw[<-Int.mul_assoc,<-Int.mul_assoc,Int.mul_comm (wtP y)]
 |trans _ _ a b=>exact a.trans b
theorem wtP_pos{p:(List UInt8)×(Option Tpolicy_subject)}(h:okW p=true):1<=wtP p:=by
 obtain⟨k,q⟩:=p
 cases q with
 |none=>cases h
 |some s=>
  have:=of_decide_eq_true (show decide (1<=s.weight/\s.weight<=1000000000000)=true from h)
  show 1<=wtS s
  unfold wtS
  split<;>omega
theorem prodW_pos:∀{l:List ((List UInt8)×(Option Tpolicy_subject))},l.all okW=true->1<=prodW l
 |[],_=>by simp[prodW]
 |p::l,h=>by
  simp only[List.all_cons,Bool.and_eq_true] at h
  have h1:=wtP_pos h.1
  have h2:=prodW_pos h.2
  show 1<=wtP p*prodW l
  have:=Int.mul_le_mul h1 h2 (by omega) (by omega)
  simpa using this
theorem few_step{n w:Int}(hn:1<=n/\n<=200000)(hw:1<=w/\w<=1000000000001):w64 (n*w)=n*w/\1<=n*w:=by
 have h1:1*1<=n*w:=Int.mul_le_mul hn.1 hw.1 (by omega) (by omega)
 have h2:n*w<=200000*1000000000001:=Int.mul_le_mul hn.2 hw.2 (by omega) (by omega)
 exact⟨w64_id (by omega) (by omega),by omega⟩
theorem M34_L1_eq(F:Nat):∀(l:List ((List UInt8)×(Option Tpolicy_subject))) (n:Int),1<=n/\n<=200000->l.all okW=true->M34_L1 F l n=some (decide (n*prodW l<=200000))
 |[],n,hn,_=>by
  unfold M34_L1
  simp only[prodW,Int.mul_one]
  rw[decide_eq_true hn.2]
 |p::l,n,hn,hl=>by
  unfold M34_L1
  have hl0:=hl
  simp only[List.all_cons,Bool.and_eq_true] at hl
  rw[if_pos ⟨hn,hl0⟩]
  have hp:=hl.1
  obtain⟨k,q⟩:=p
  cases q with
  |none=>cases hp
  |some s=>
   have hw:=of_decide_eq_true (show decide (1<=s.weight/\s.weight<=1000000000000)=true from hp)
   have ih:=fun m hm=>M34_L1_eq F l m hm hl.2
   have hpos:=prodW_pos hl.2
   have e1:w64 (s.weight+1)=s.weight+1:=w64_id (by omega) (by omega)
   have key:∀w:Int,1<=w/\w<=1000000000001->wtP (k,some s)=w->(if (decide ((w64 (n*w))>200000))=true then some false else M34_L1 F l (w64 (n*w)))=some (decide (n*prodW ((k,some s)::l)<=200000)):=by
    intro w hw hwe
    obtain⟨h1,h2⟩:=few_step hn hw
    rw[h1]
    show _=some (decide (n*(wtP (k,some s)*prodW l)<=200000))
    rw[hwe,<-Int.mul_assoc]
    by_cases hg:n*w>200000
    ·rw[if_pos (decide_eq_true hg)]
     have:n*w*1<=n*w*prodW l:=Int.mul_le_mul_of_nonneg_left hpos (by omega)
     rw[decide_eq_false (by omega)]
    ·rw[if_neg (by simpa using hg),ih _ ⟨h2,by omega⟩]
   simp only[Option.bind_some]
   cases hh:s.has with
   |true=>
    simp only[if_pos]
    rw[e1]
    exact key _ ⟨by omega,by omega⟩ (by simp[wtP,wtS,hh])
   |false=>
    rw[if_neg (by simp)]
    cases ht:s.asText with
    |true=>
     simp only[if_pos,jn]
     cases hn2:s.asNo with
     |true=>
      simp only[if_pos]
      rw[e1]
      exact key _ ⟨by omega,by omega⟩ (by simp[wtP,wtS,hh,ht,hn2])
     |false=>
      rw[if_neg (by simp)]
      exact key _ ⟨by omega,by omega⟩ (by simp[wtP,wtS,hh,ht,hn2])
    |false=>
     rw[if_neg (by simp)]
     exact key _ ⟨by omega,by omega⟩ (by simp[wtP,wtS,hh,ht])
theorem ord_M34_L1{F:Nat}{l l':List ((List UInt8)×(Option Tpolicy_subject))}{n:Int}{r:Bool}(hp:l.Perm l')(h:M34_L1 F l n=some r):M34_L1 F l' n=some r:=by
 cases l with
 |nil=>rw[<-hp.nil_eq];exact h
 |cons p t=>
  have hc:(1<=n/\n<=200000)/\(p::t).all okW=true:=by
   unfold M34_L1 at h
   split at h
   ·rename_i hc;exact hc
   ·cases h
  rw[M34_L1_eq F _ n hc.1 hc.2] at h
  rw[M34_L1_eq F _ n hc.1 (by rw[<-hc.2];exact(hp.symm.all_eq)),<-prodW_perm hp]
  exact h
set_option linter.unusedSimpArgs false
set_option maxRecDepth 100000
theorem numsL_len(s:Tpolicy_subject)(nums:List Int):(numsL s nums).length<=nums.length+1:=by
 unfold numsL
 split<;>simp
theorem flat_len{α β:Type}(f:α->List β)(B:Nat):∀l:List α,(∀x,x∈l->(f x).length<=B)->(l.flatMap f).length<=l.length*B
 |[],_=>by simp
 |x::l,h=>by
  have h1:=h x (by simp)
  have h2:=flat_len f B l fun y hy=>h y (by simp[hy])
  simp only[List.flatMap_cons,List.length_append,List.length_cons,Nat.add_mul,Nat.one_mul]
  omega
theorem cellsL_len(s:Tpolicy_subject)(nums:List Int)(txs:List Txt):(cellsL s nums txs).length<=(nums.length+1)+txs.length*(nums.length+1):=by
 have h1:=numsL_len s nums
 unfold cellsL
 rw[List.length_append]
 have h2:(if (s.asText||s.has)=true then txs.flatMap (fun t=>(numsL s nums).map (tvs t)) else []).length<=txs.length*(nums.length+1):=by
  split
  ·exact flat_len _ _ _ fun x _=>by rw[List.length_map];exact h1
  ·simp
 omega
structure Gvs(F:Nat)(s:Tpolicy_subject)(nums:List Int)(txs:List Txt):Prop where
 g:Gv F s nums txs
 rep:∀v,okV v->∃c,c∈cellsL s nums txs/\SameV s (toF c) v
 ok:∀c,c∈cellsL s nums txs->okV (toF c)
theorem gvs_of{s:Tpolicy_subject}{w:Nat}(h:SOk s w)(hw:w<=600000)(F:Nat)(hF:700000<=F):∃nums txs,Gvs F s nums txs:=by
 have hsz:=h.sz
 obtain⟨nums,a1,a2,a3⟩:=M131_ok F s h.ns (by omega)
 obtain⟨txs,b1,b2,b3⟩:=M132_ok F s (by omega) (by omega) (by omega) h.bg
 have hl:=cellsL_len s nums txs
 have hm:txs.length*(nums.length+1)<=600001*900002:=Nat.mul_le_mul (by omega) (by omega)
 refine⟨nums,txs,⟨a1,b1,by omega,by omega⟩,fun v hv=>cells_rep a3 h.ns b3 h.tx v hv,fun c hc=>cells_ok (fun x hx=>?_) (fun x hx=>?_) hc⟩
 ·rcases(a3 x).1 hx with e|⟨n,_,hn⟩
  ·rw[e];exact⟨by omega,by omega⟩
  ·unfold near at hn
   exact of_decide_eq_true (List.mem_filter.1 hn).2
 ·exact(b3.ok x hx).elim (h.is x) id
theorem ga_L{ls:List Lf}(h:GoodL ls):Ga (allL ls) ls:=by
 have h0:Ga [] []:=⟨by simp[KN],fun n=>by simp,fun n hn=>by simp at hn,fun l hl=>by simp at hl,fun n=>⟨by simp[subj,mget,sub0],by simp[subj,mget,sub0],by simp[subj,mget,sub0],fun _=>⟨rfl,rfl⟩,rfl,rfl⟩,by simp⟩
 have:=Ga.fold ls [] [] h0 h.1 (by simp) (by have:=h.2;simp;omega)
 rw[List.nil_append] at this
 exact this
def nsL(ls:List Lf):List Txt:=tsort ((allL ls).map (·.1))
theorem nsL_mem{ls:List Lf}(h:GoodL ls){n:Txt}:n∈nsL ls<->∃l,l∈ls/\l.nm=n:=by
 unfold nsL
 rw[(tsort_perm _).mem_iff]
 exact(ga_L h).ke n
theorem nsL_nodup{ls:List Lf}(h:GoodL ls):(nsL ls).Nodup:=(tsort_perm _).nodup_iff.2 (ga_L h).kn
theorem nsL_len(ls:List Lf):(nsL ls).length=(allL ls).length:=by
 unfold nsL
 rw[(tsort_perm _).length_eq];simp
theorem wsm_L{ls:List Lf}(h:GoodL ls)(n:Txt):wsm ls n<=600000:=by
 have:=wsm_le h.1 n
 have:=h.2
 omega
theorem sub_L{ls:List Lf}(h:GoodL ls){p:Txt×Option Tpolicy_subject}(hp:p∈allL ls):p.2=some (subj (allL ls) p.1):=by
 have hg:=ga_L h
 have h1:=mem_mget hg.kn hp
 rw[hg.sm p.1 (List.mem_map_of_mem hp)] at h1
 exact(Option.some.inj h1).symm
theorem wtP_L{ls:List Lf}(h:GoodL ls){p:Txt×Option Tpolicy_subject}(hp:p∈allL ls):okW p=true/\2<=wtP p:=by
 have h1:=((ga_L h).ok p.1).wt
 have h2:=wsm_L h p.1
 unfold okW wtP wtS
 rw[sub_L h hp]
 refine⟨decide_eq_true ⟨by omega,by omega⟩,?_⟩
 dsimp only
 split<;>omega
theorem okW_L{ls:List Lf}(h:GoodL ls):(allL ls).all okW=true:=List.all_eq_true.2 fun p hp=>(wtP_L h hp).1
theorem prodW_two:∀{l:MpS},(∀p,p∈l->2<=wtP p)->((2 ^ l.length:Nat):Int)<=prodW l
 |[],_=>by simp[prodW]
 |p::r,h=>by
  have h1:=h p (by simp)
  have h2:=prodW_two (l:=r) fun m hm=>h m (by simp[hm])
  have h3:(1:Int)<=((2 ^ r.length:Nat):Int):=by
   have:=Nat.one_le_two_pow (n:=r.length)
   omega
  rw[prodW,List.length_cons,Nat.pow_succ,Nat.mul_comm]
  have:=Int.mul_le_mul h1 h2 (by omega) (by omega)
  rw[Int.natCast_mul]
  exact this
def fewL(ls:List Lf):Bool:=decide (prodW (allL ls)<=200000)
theorem M34_L(F:Nat){ls:List Lf}(h:GoodL ls):M34 F (allL ls)=some (fewL ls):=by
 unfold M34 fewL
 rw[M34_L1_eq F _ 1 ⟨by omega,by omega⟩ (okW_L h),Int.one_mul]
theorem few_lenL{ls:List Lf}(h:GoodL ls)(hf:fewL ls=true):(nsL ls).length<=17:=by
 have h1:=prodW_two fun p hp=>(wtP_L h hp).2
 have h2:=of_decide_eq_true hf
 rw[nsL_len]
 rcases Nat.lt_or_ge 17 (allL ls).length with h3|h3
 ·have:=Nat.pow_le_pow_right (n:=2) (by omega) h3
  omega
 ·exact h3
theorem okV_none:okV ⟨false,false,[],0⟩:=⟨fun h=>absurd h (by simp),fun h=>absurd h (by simp)⟩
structure Cond3(ls:List Lf)(P:(Txt->Option Fd)->Option Bool)(A:(Txt->Fd)->Bool):Prop where
 mono:∀s s' b,ext s s'->P s=some b->P s'=some b
 full:∀s a,(∀l,l∈ls->s l.nm=some (a l.nm))->P s=some (A a)
 congr:∀a b,(∀l,l∈ls->l.one (a l.nm)=l.one (b l.nm))->A a=A b
theorem nm_len{s:Txt}(h:nameB s=true):s.length<=1000:=by
 unfold nameB at h
 split at h
 ·cases h
 ·rw[Bool.and_eq_true,Bool.and_eq_true,Bool.and_eq_true,decide_eq_true_eq] at h
  omega
def ExA(A:(Txt->Fd)->Bool):Prop:=∃v:Txt->Fd,(∀n,okV (v n))/\A v=true
theorem prog_find{ls:List Lf}(hl:GoodL ls)(hf17:fewL ls=true){P:(Txt->Option Fd)->Option Bool}{A:(Txt->Fd)->Bool}(hP:Cond3 ls P A)(F0:Nat)(cs:List KV)(n0:Int)
  (hC:∀F m kn s,F0<=F->Std m kn s->M57 F ⟨m,some kn⟩ cs n0=some (tv3 (P (asF s)))) (F:Nat) (hF:F0+700100<=F):
  ∃by_ m' kn' r,M35 F (allL ls) cs n0=some (by_,nsL ls)/\M36 F 0 by_ cs n0 (nsL ls) [] []=some (r,m',kn')/\(r=true<->ExA A)/\
   (r=true->∃s',Std m' kn' s'/\P (asF s')=some true/\∀n x,s' n=some x->okV (toF x)/\n∈nsL ls):=by
 have hg:=ga_L hl
 have hl17:=few_lenL hl hf17
 have hal:(allL ls).length<=17:=by rw[<-nsL_len];exact hl17
 have hgs:=fun n=>gvs_of (hg.ok n) (wsm_L hl n) F (by omega)
 have hnm:∀n,n∈(allL ls).map (·.1)->n.length<=1000:=fun n hn=>by
  obtain⟨l,h,e⟩:=(hg.ke n).1 hn
  exact e ▸ nm_len (hl.1 l h).nm
 obtain⟨by_,e1,e2⟩:=M35_ok F (allL ls) cs n0 hg.kn (by omega) (fun p hp=>hnm p.1 (List.mem_map_of_mem hp)) (fun n hn=>by
  obtain⟨nums,txs,h⟩:=hgs n
  exact⟨subj (allL ls) n,nums,txs,hg.sm n hn,h.g⟩)
 have hnd:=nsL_nodup hl
 have hs0:Std [] [] (fun _=>none:Asg):=⟨fun _=>rfl,fun _=>rfl,by simp[KN],by simp[KN]⟩
 have hmono:∀(s s':Asg) b,ext s s'->P (asF s)=some b->P (asF s')=some b:=fun s s' b he h=>hP.mono _ _ b (fun n x hx=>by
  unfold asF at hx ⊢
  cases hs:s n with
  |none=>rw[hs] at hx;cases hx
  |some y=>rw[hs] at hx;rw[he n y hs];exact hx) h
 obtain⟨m',kn',hf⟩:=find_ok (fun s=>P (asF s)) F0 cs n0 hC by_ (nsL ls) hnd (by omega) (nsL ls) [] rfl F (by omega) [] [] (fun _=>none) hs0 (fun _ _=>rfl)
 have hcan:∀n,n∈nsL ls->∃nums txs,Gvs F (subj (allL ls) n) nums txs/\∀x,x∈(mget by_ n).getD []<->x∈cellsL (subj (allL ls) n) nums txs:=fun n hn=>by
  obtain⟨nums,txs,h⟩:=hgs n
  exact⟨nums,txs,h,e2 n _ nums txs (hg.sm n ((tsort_perm _).mem_iff.1 hn)) h.g⟩
 rw[show(([]:List Txt).length:Int)=0 from rfl] at hf
 cases h4:fnd? (fun s=>P (asF s)) (fun n=>(mget by_ n).getD []) (nsL ls) (fun _=>none) with
 |some s'=>
  rw[h4] at hf
  dsimp only at hf
  obtain⟨g1,g2,g3⟩:=fnd_sound (nsL ls) _ s' hnd (fun _ _=>rfl) h4
  have hs':∀n x,s' n=some x->okV (toF x)/\n∈nsL ls:=fun n x hx=>by
   rcases g3 n x hx with h|⟨h,h5⟩
   ·cases h
   ·obtain⟨nums,txs,q1,q2⟩:=hcan n h
    exact⟨q1.ok x ((q2 x).1 h5),h⟩
  refine⟨by_,m',kn',true,e1,hf.1,⟨fun _=>?_,fun _=>rfl⟩,fun _=>⟨s',hf.2,g1,hs'⟩⟩
  refine⟨fun n=>((asF s') n).getD ⟨false,false,[],0⟩,fun n=>?_,?_⟩
  ·unfold asF
   dsimp only
   cases hx:s' n with
   |none=>exact okV_none
   |some x=>exact(hs' n x hx).1
  ·have h6:=hP.mono (asF s') (fun n=>some (((asF s') n).getD ⟨false,false,[],0⟩)) true (fun n x hx=>by dsimp only;rw[hx];rfl) g1
   rw[hP.full _ (fun n=>((asF s') n).getD ⟨false,false,[],0⟩) fun _ _=>rfl] at h6
   exact Option.some.inj h6
 |none=>
  rw[h4] at hf
  dsimp only at hf
  refine⟨by_,m',kn',false,e1,hf.1,⟨fun h=>absurd h (by simp),fun⟨v,hv,ht⟩=>?_⟩,fun h=>absurd h (by simp)⟩
  exfalso
  have hrep:∀n,∃c:Tpolicy_value,n∈nsL ls->c∈(mget by_ n).getD []/\SameV (subj (allL ls) n) (toF c) (v n):=fun n=>by
   by_cases hn:n∈nsL ls
   ·obtain⟨nums,txs,q1,q2⟩:=hcan n hn
    obtain⟨c,c1,c2⟩:=q1.rep (v n) (hv n)
    exact⟨c,fun _=>⟨(q2 c).2 c1,c2⟩⟩
   ·exact⟨zV,fun h=>absurd h hn⟩
  obtain⟨a,ha⟩:∃a:Txt->Tpolicy_value,∀n,n∈nsL ls->a n∈(mget by_ n).getD []/\SameV (subj (allL ls) n) (toF (a n)) (v n):=⟨fun n=>(hrep n).choose,fun n hn=>(hrep n).choose_spec hn⟩
  refine fnd_none hmono (nsL ls) _ hnd (fun _ _=>rfl) h4 a (fun n hn=>(ha n hn).1) ?_
  rw[hP.full _ (fun n=>toF (a n)) fun l hl2=>by
   have hn:=(nsL_mem hl).2 ⟨l,hl2,rfl⟩
   unfold asF with_
   dsimp only
   rw[if_pos hn];rfl]
  rw[hP.congr _ v fun l hl2=>one_same (hg.lf l hl2) (ha l.nm ((nsL_mem hl).2 ⟨l,hl2,rfl⟩)).2,ht]
open Classical in
noncomputable def trE(x:TTest):Tr:=if h:∃t:Tr,x=t.toT/\t.ok then h.choose else .mk 0 [] [] 0 0 []
theorem trE_spec{x:TTest}(h:okTTest x):x=(trE x).toT/\(trE x).ok:=by
 have h':∃t:Tr,x=t.toT/\t.ok:=h
 unfold trE
 rw[dif_pos h']
 exact h'.choose_spec
noncomputable def vTT(x:TTest):Int:=vT (trE x)
theorem M30_tt{x:TTest}(h:okTTest x){F:Nat}(hF:(trE x).fu<=F):M30 F x=some (vTT x):=by
 obtain⟨h1,h2⟩:=trE_spec h
 have:=M30_tr (trE x) h2 F hF
 rwa [<-h1] at this
theorem okTFact_of{f:TFact}(h:okTFact f):okTFact' f:=
 ⟨h.1,h.2.1,fun p hp=>⟨(h.2.2.1.1 p hp).1,(h.2.2.1.1 p hp).2.1⟩,h.2.2.1.2,fun p hp=>(h.2.2.2.1.1 p hp).1,h.2.2.2.1.2⟩
noncomputable def fuP(p:TPolicy):Nat:=(p.Rules.map fun r=>(trE r.When).fu).sum+(p.Waivers.map fun w=>w.Subject.length+2).sum
theorem le_sum{α:Type}{g:α->Nat}:∀{l:List α} {x:α},x∈l->g x<=(l.map g).sum
 |y::l,x,h=>by
  rcases List.mem_cons.1 h with e|h
  ·subst e;simp
  ·have:=le_sum (g:=g) h;simp;omega
noncomputable def rlF(seen:List (List UInt8)):List TPolicyRule->Int
 |[]=>0
 |r::l=>if nameB r.Name=false then 8 else if (seen.any fun n=>n==r.Name)=true then 5 else if nameB r.About=false then 8 else if vTT r.When=0 then (if (decide (r.Level<1)||decide (r.Level>4))=true then 7 else rlF (seen++[r.Name]) l) else vTT r.When
def starB(s:List UInt8):Bool:=s.dropLast.any fun c=>c==42
def wvF(p:TPolicy)(w:TWaiver):Int:=
 if (p.Rules.any fun r=>r.Name==w.Rule)=false then 4 else if valB w.Subject=false then 2 else if starB w.Subject=true then 2
 else if (decide (w.From<0)||decide (w.From>w.To)||decide (w.To>1000000))=true then 9 else if nameB w.Owner=false then 8 else if (decide (w.Level<1)||decide (w.Level>3))=true then 7 else 0
def wvsF(p:TPolicy):List TWaiver->Int
 |[]=>0
 |w::l=>if wvF p w=0 then wvsF p l else wvF p w
noncomputable def vP(p:TPolicy):Int:=if 100<p.Rules.length then 3 else if 200<p.Waivers.length then 3 else if rlF [] p.Rules=0 then wvsF p p.Waivers else rlF [] p.Rules
theorem M150_eq(F:Nat)(l:List TPolicyRule)(a:List UInt8)(b:List UInt8)(c d:Int)(e:List UInt8)(g:Int):M150 F l a b c d e g=some (l.any fun r=>r.Name==a):=by
 unfold M150 M163
 have h:=idxL (g:=M163_L1 F a b c d e g (some (-1))) (fun r:TPolicyRule=>r.Name==a) (fun _=>rfl) (fun x l n=>by rw[M163_L1];rfl) l 0
 rw[show((0:Nat):Int)=0 from rfl] at h
 rw[jn_def,h]
 exact anyGe
theorem ixb:∀s:List UInt8,(Lib.indexByte s 42 = -1/\(s.any fun c=>c==42)=false)\/(0<=Lib.indexByte s 42/\(s.any fun c=>c==42)=true)
 |[]=>Or.inl ⟨rfl,rfl⟩
 |c::s=>by
  rw[Lib.indexByte,List.any_cons]
  cases hc:c==42
  ·simp only[Bool.false_eq_true,if_false,Bool.false_or]
   rcases ixb s with h|h
   ·rw[h.1];exact Or.inl ⟨rfl,h.2⟩
   ·right
    rw[beq_false_of_ne (show Lib.indexByte s 42 ≠ -1 by omega)]
    exact⟨by simp;omega,h.2⟩
  ·right;simp
theorem star_eq:∀s:List UInt8,(decide (0<=Lib.indexByte s 42)&&decide (Lib.indexByte s 42<(s.length:Int) - 1))=starB s
 |[]=>rfl
 |[c]=>by
  unfold starB
  simp only[List.dropLast_singleton,List.any_nil,List.length_singleton]
  by_cases h:0<=Lib.indexByte [c] 42
  ·rw[decide_eq_false (show ¬Lib.indexByte [c] 42<((1:Nat):Int) - 1 by omega),Bool.and_false]
  ·rw[decide_eq_false h,Bool.false_and]
 |c::d::s=>by
  have ih:=star_eq (d::s)
  unfold starB at ih ⊢
  rw[List.dropLast_cons_cons,List.any_cons,<-ih,Lib.indexByte]
  cases hc:c==42
  ·simp only[Bool.false_eq_true,if_false,Bool.false_or]
   rcases ixb (d::s) with h|h
   ·rw[h.1];rfl
   ·rw[beq_false_of_ne (show Lib.indexByte (d::s) 42 ≠ -1 by omega)]
    simp only[Bool.false_eq_true,if_false]
    rw[decide_eq_true h.1,decide_eq_true (show 0<=Lib.indexByte (d::s) 42+1 by omega)]
    congr 1
    exact decide_eq_decide.2 (by simp only[List.length_cons];omega)
  ·rw[if_pos rfl,decide_eq_true (by simp),decide_eq_true (by simp only[List.length_cons];omega)];rfl
theorem M113_eq(F:Nat)(p:TPolicy)(w:TWaiver)(hw:okTWaiver w):M113 F p w=some (wvF p w):=by
 have h1:okS w.Subject:=hw.2.1
 have h2:okS w.Owner:=hw.2.2.2.2.1
 unfold M113 wvF
 rw[M149,Option.bind_some,M150_eq,Option.bind_some,jn_def,M105_eq F _ h1,M31_eq F _ h2]
 have hs:=star_eq w.Subject
 unfold okS at h1
 rw[show(42:Int).toNat.toUInt8=42 from rfl,w64_id (by omega) (by omega)]
 rw[<-hs]
 simp only[Option.bind_some,ge_iff_le]
 generalize decide (Lib.indexByte w.Subject 42<(w.Subject.length:Int) - 1)=b1
 generalize decide (0<=Lib.indexByte w.Subject 42)=b2
 generalize (p.Rules.any fun r=>r.Name==w.Rule)=b3
 generalize valB w.Subject=b4
 generalize decide (w.From<0)=b5
 generalize decide (w.From>w.To)=b6
 generalize decide (w.To>1000000)=b7
 generalize nameB w.Owner=b8
 generalize decide (w.Level<1)=b9
 generalize decide (w.Level>3)=b10
 cases b3<;>cases b4
 all_goals try rfl
 cases b2<;>cases b1<;>cases b5<;>cases b6<;>cases b7<;>cases b8<;>cases b9<;>cases b10<;>rfl
theorem M54_L2_eq(F:Nat)(p:TPolicy)(hp:okTPolicy p):∀l:List TWaiver,(∀w,w∈l->w∈p.Waivers)->M54_L2 F p (some 0) l=some (wvsF p l)
 |[],_=>rfl
 |w::l,h=>by
  rw[M54_L2,M113_eq F p w (hp.2.1.1 w (h w (by simp))),Option.bind_some,M54_L2_eq F p hp l fun u hu=>h u (by simp[hu]),wvsF]
  by_cases h0:wvF p w=0<;>simp[h0]
theorem M54_L1_eq(F:Nat)(p:TPolicy)(hp:okTPolicy p)(hF:fuP p<=F)(k:Option Int):∀(l:List TPolicyRule),(∀r,r∈l->r∈p.Rules)->∀(m:List (List UInt8×Bool)) (seen:List (List UInt8)),(∀nm,(mget m nm).getD false=seen.any fun n=>n==nm)->M54_L1 F k l m=if rlF seen l=0 then k else some (rlF seen l)
 |[],_,m,seen,_=>by simp[M54_L1,rlF]
 |r::l,h,m,seen,hm=>by
  have hr:=h r (by simp)
  have hok:=hp.1.1 r hr
  rw[M54_L1,M31_eq F _ hok.1,Option.bind_some,hm,M31_eq F _ hok.2.1,M30_tt hok.2.2.1 (by have:=le_sum (g:=fun r:TPolicyRule=>(trE r.When).fu) hr;unfold fuP at hF;omega),Option.bind_some,Option.bind_some,
   M54_L1_eq F p hp hF k l (fun u hu=>h u (by simp[hu])) (mput m r.Name true) (seen++[r.Name]) (fun nm=>by
    rw[mget_mput,List.any_append,<-hm]
    by_cases e:r.Name=nm
    ·rw[if_pos e];simp[e]
    ·rw[if_neg e];simp[e]),rlF]
  cases nameB r.Name
  ·rfl
  ·cases (seen.any fun n=>n==r.Name)
   ·cases nameB r.About
    ·rfl
    ·by_cases h0:vTT r.When=0
     ·simp only[h0]
      cases decide (r.Level<1)<;>cases decide (r.Level>4)<;>rfl
     ·simp[h0]
   ·rfl
theorem M54_eq(p:TPolicy)(hp:okTPolicy p)(F:Nat)(hF:fuP p<=F):M54 F p=some (vP p):=by
 unfold M54 vP
 simp only[jn_def]
 rw[M54_L1_eq F p hp hF _ p.Rules (fun _ h=>h) [] [] (fun nm=>rfl),M54_L2_eq F p hp _ fun _ h=>h]
 by_cases h1:100<p.Rules.length
 ·rw[if_pos (decide_eq_true (by omega)),if_pos h1]
 ·rw[if_neg (by simp;omega),if_neg h1]
  by_cases h2:200<p.Waivers.length
  ·rw[if_pos (decide_eq_true (by omega)),if_pos h2]
  ·rw[if_neg (by simp;omega),if_neg h2]
   split<;>rfl
def okFs(l:List TFact):Prop:=(∀f,f∈l->okTFact f)/\l.length<=maxLen
def fsF:List TFact->Int
 |[]=>0
 |f::l=>if vF f=0 then fsF l else vF f
def vFs(l:List TFact):Int:=if 5000<l.length then 3 else fsF l
theorem M116_eq(F:Nat)(l:List TFact)(h:okFs l):M116 F l=some (vFs l):=by
 have hl:∀q:List TFact,(∀f,f∈q->f∈l)->M116_L1 F (some 0) q=some (fsF q):=by
  intro q
  induction q with
  |nil=>intro _;rfl
  |cons f q ih=>
   intro hq
   rw[M116_L1,M43_eq F f (okTFact_of (h.1 f (hq f (by simp)))),Option.bind_some,ih fun u hu=>hq u (by simp[hu]),fsF]
   by_cases h0:vF f=0<;>simp[h0]
 unfold M116 vFs
 rw[jn_def,hl l fun _ h=>h]
 by_cases h1:5000<l.length
 ·rw[if_pos (decide_eq_true (by omega)),if_pos h1]
 ·rw[if_neg (by simp;omega),if_neg h1]
theorem rlF_mem:∀{l:List TPolicyRule} {seen:List (List UInt8)} {r:TPolicyRule},rlF seen l=0->r∈l->vTT r.When=0
 |x::l,seen,r,h,hm=>by
  rw[rlF] at h
  split at h
  ·cases h
  ·split at h
   ·cases h
   ·split at h
    ·cases h
    ·split at h
     ·rename_i h0
      split at h
      ·cases h
      ·rcases List.mem_cons.1 hm with e|hm
       ·rw[e];exact h0
       ·exact rlF_mem h hm
     ·rename_i h0;exact absurd h h0
theorem vP_zero{p:TPolicy}(h:vP p=0):p.Rules.length<=100/\p.Waivers.length<=200/\(∀r,r∈p.Rules->vTT r.When=0)/\wvsF p p.Waivers=0:=by
 unfold vP at h
 split at h
 ·cases h
 ·split at h
  ·cases h
  ·split at h
   ·rename_i h0
    exact⟨by omega,by omega,fun r hr=>rlF_mem h0 hr,h⟩
   ·rename_i h0;exact absurd h h0
noncomputable def ruB(f:TFact)(r:TPolicyRule):Bool:=(r.About==f.Kind)&&(trE r.When).tru f
noncomputable def rf(p:TPolicy)(f:TFact):Int:=if (p.Rules.any (ruB f))=true then ((p.Rules.findIdx (ruB f):Nat):Int) else -1
section
variable{p:TPolicy}(hp:okTPolicy p)(h0:vP p=0){F:Nat}(hF:fuP p<=F)
include hp h0 hF
theorem when_ok{r:TPolicyRule}(hr:r∈p.Rules):r.When=(trE r.When).toT/\(trE r.When).ok/\(trE r.When).flt=0/\(trE r.When).cnt<=60/\(trE r.When).fu<=F:=by
 have h1:=trE_spec (hp.1.1 r hr).2.2.1
 have h2:=vT_zero ((vP_zero h0).2.2.1 r hr)
 have:=le_sum (g:=fun r:TPolicyRule=>(trE r.When).fu) hr
 unfold fuP at hF
 exact⟨h1.1,h1.2,h2.1,h2.2,by omega⟩
theorem M164_eq{r:TPolicyRule}(hr:r∈p.Rules)(f:TFact):M164 F r f.Kind f.Subject f.Texts f.Numbers=some (ruB f r):=by
 obtain⟨e1,e2,e3,e4,e5⟩:=when_ok hp h0 hF hr
 unfold M164 ruB
 cases r.About==f.Kind
 ·rfl
 ·rw[if_pos rfl,e1,M32_tr _ e2 e3 e4 F e5,Option.bind_some,show(TFact.mk f.Kind f.Subject f.Texts f.Numbers)=f from rfl,M44_eq,Option.bind_some,if_pos (cd_t _),hold_tr f _ e2 e3 F e5,<-e1]
  cases (trE r.When).tru f<;>rfl
theorem M163_1_L1_eq(f:TFact):∀(l:List TPolicyRule) (n:Nat),(∀r,r∈l->r∈p.Rules)->M163_1_L1 F f.Kind f.Subject f.Texts f.Numbers (some (-1)) l (n:Int)=if (l.any (ruB f))=true then some ((n+l.findIdx (ruB f):Nat):Int) else some (-1)
 |[],n,_=>rfl
 |r::l,n,h=>by
  rw[M163_1_L1,M164_eq hp h0 hF (h r (by simp)) f,Option.bind_some,show((n:Int)+1)=((n+1:Nat):Int) from rfl,M163_1_L1_eq f l (n+1) fun u hu=>h u (by simp[hu]),List.any_cons,List.findIdx_cons]
  cases ruB f r
  ·simp only[Bool.false_eq_true,if_false,Bool.false_or,cond_false]
   rw[show n+1+l.findIdx (ruB f)=n+(l.findIdx (ruB f)+1) by omega]
  ·simp
theorem M117_eq(f:TFact):M117 F p f=some (rf p f):=by
 unfold M117 M163_1 rf
 have:=M163_1_L1_eq hp h0 hF f p.Rules 0 fun _ h=>h
 rw[show((0:Nat):Int)=0 from rfl] at this
 rw[jn_def,this,Nat.zero_add]
 cases p.Rules.any (ruB f)<;>rfl
end
def suitB(a s:List UInt8):Bool:=if a.getLast? = some 42 then beg s a.dropLast else a==s
theorem M165_eq(F:Nat)(a:List UInt8)(ha:a.length<=140737488351232):M165 F a [42]=some (if a.getLast? = some 42 then a.dropLast else a,decide (a.getLast? = some 42)):=by
 rcases List.eq_nil_or_concat a with rfl|⟨b,c,rfl⟩
 ·rfl
 ·simp only[List.concat_eq_append,List.length_append,List.length_singleton] at ha ⊢
  unfold M165 M214 M234
  simp only[List.length_append,List.length_singleton]
  rw[if_pos (decide_eq_true (by omega)),w64_id (by omega) (by omega),show(((b.length+1:Nat):Int) - ((1:Nat):Int))=((b.length:Nat):Int) by omega,show((b.length:Int)).toNat=b.length by omega,if_pos (by omega),List.drop_append_of_le_length (by omega),List.drop_length,List.nil_append,Option.bind_some,List.take_append_of_le_length (by omega),List.take_length]
  simp only[List.getLast?_append,List.getLast?_singleton,List.dropLast_concat]
  by_cases h:c=42
  ·subst h;simp
  ·have:([c]==([42]:List UInt8))=false:=beq_false_of_ne (by simp[h])
   rw[this]
   simp[h]
theorem M118_eq(F:Nat)(w:TWaiver)(s:List UInt8)(hw:okTWaiver w):M118 F w s=some (suitB w.Subject s):=by
 unfold M118 suitB
 rw[M165_eq F _ hw.2.1,Option.bind_some]
 dsimp only
 by_cases h:w.Subject.getLast? = some 42
 ·rw[if_pos (decide_eq_true h),if_pos h,if_pos h,M138_eq];rfl
 ·rw[if_neg (by simp[h]),if_neg h]
def forB(r:TPolicyRule)(f:TFact)(w:TWaiver):Bool:=(w.Rule==r.Name)&&decide (w.Level<r.Level)&&suitB w.Subject f.Subject
def dayB(day:Int)(w:TWaiver):Bool:=decide (w.From<=day)&&decide (day<=w.To)
def idxs(c:TWaiver->Bool):List TWaiver->Nat->List Int
 |[],_=>[]
 |w::l,n=>if c w=true then (n:Int)::idxs c l (n+1) else idxs c l (n+1)
def fstW(c:TWaiver->Bool):List TWaiver->Nat->Option (Int×Int)
 |[],_=>none
 |w::l,n=>if c w=true then some ((n:Int),w.Level) else fstW c l (n+1)
noncomputable def ruleOf(p:TPolicy)(f:TFact):Option TPolicyRule:=p.Rules.find? (ruB f)
noncomputable def rul(p:TPolicy)(f:TFact):Tpolicy_ruling:=match ruleOf p f with
 |none=>⟨rf p f,1,[]⟩
 |some r=>⟨rf p f,r.Level,idxs (forB r f) p.Waivers 0⟩
noncomputable def dcd(p:TPolicy)(day:Int)(f:TFact)(i:Int):TDecision:=match ruleOf p f with
 |none=>⟨i,rf p f,-1,1⟩
 |some r=>(match fstW (fun w=>forB r f w&&dayB day w) p.Waivers 0 with
  |none=>⟨i,rf p f,-1,r.Level⟩
  |some (k,v)=>⟨i,rf p f,k,v⟩)
noncomputable def dcds(p:TPolicy)(day:Int):List TFact->Nat->List TDecision
 |[],_=>[]
 |f::l,n=>dcd p day f (n:Int)::dcds p day l (n+1)
theorem find_idx{α:Type}(q:α->Bool):∀l:List α,(l.any q=false/\l.find? q=none)\/(l.any q=true/\∃r,l.find? q=some r/\l[l.findIdx q]? = some r/\q r=true)
 |[]=>Or.inl ⟨rfl,rfl⟩
 |x::l=>by
  rw[List.any_cons,List.find?_cons,List.findIdx_cons]
  cases h:q x
  ·rcases find_idx q l with ⟨h1,h2⟩|⟨h1,r,h2,h3,h4⟩
   ·left;exact⟨by rw[h1];rfl,h2⟩
   ·right;exact⟨by rw[h1];rfl,r,h2,by simpa using h3,h4⟩
  ·right;exact⟨rfl,x,rfl,by simp,h⟩
theorem rf_none{p:TPolicy}{f:TFact}(h:ruleOf p f=none):rf p f = -1:=by
 unfold rf
 rcases find_idx (ruB f) p.Rules with ⟨h1,h2⟩|⟨h1,r,h2,h3,h4⟩
 ·rw[h1];rfl
 ·unfold ruleOf at h;rw[h2] at h;cases h
theorem rf_some{p:TPolicy}{f:TFact}{r:TPolicyRule}(h:ruleOf p f=some r):0<=rf p f/\idx p.Rules (rf p f)=some r/\r∈p.Rules:=by
 unfold rf
 rcases find_idx (ruB f) p.Rules with ⟨h1,h2⟩|⟨h1,r',h2,h3,h4⟩
 ·unfold ruleOf at h;rw[h2] at h;cases h
 ·unfold ruleOf at h;rw[h2] at h;cases h
  rw[if_pos h1]
  refine⟨by omega,?_,List.mem_of_getElem? h3⟩
  unfold idx
  rw[if_pos (by omega)]
  simpa using h3
section
variable{p:TPolicy}(hp:okTPolicy p)(h0:vP p=0){F:Nat}(hF:fuP p<=F)
include hp h0
omit h0 in
theorem M62_L2_eq(f:TFact)(r:TPolicyRule)(k:List Int->Option (List Tpolicy_ruling)):∀(l:List TWaiver) (n:Nat) (acc:List Int),(∀w,w∈l->w∈p.Waivers)->acc.length+l.length<=200->M62_L2 F f r k l (n:Int) acc=k (acc++idxs (forB r f) l n)
 |[],n,acc,_,_=>by rw[M62_L2,idxs,List.append_nil]
 |w::l,n,acc,h,hl=>by
  simp only[List.length_cons] at hl
  have hw:=hp.2.1.1 w (h w (by simp))
  rw[M62_L2,M118_eq F w _ hw,idxs,show((n:Int)+1)=((n+1:Nat):Int) from rfl]
  simp only[jn_def,Option.bind_some]
  have ih:=fun acc (hacc:acc.length+l.length<=200)=>M62_L2_eq f r k l (n+1) acc (fun u hu=>h u (by simp[hu])) hacc
  have hb:forB r f w=((w.Rule==r.Name)&&decide (w.Level<r.Level)&&suitB w.Subject f.Subject):=rfl
  cases h1:w.Rule==r.Name
  ·rw[show forB r f w=false by rw[hb,h1];rfl];exact ih acc (by omega)
  ·cases h2:decide (w.Level<r.Level)
   ·rw[show forB r f w=false by rw[hb,h1,h2];rfl];exact ih acc (by omega)
   ·cases h3:suitB w.Subject f.Subject
    ·rw[show forB r f w=false by rw[hb,h1,h2,h3];rfl];exact ih acc (by omega)
    ·rw[show forB r f w=true by rw[hb,h1,h2,h3];rfl]
     simp only[if_true]
     rw[if_pos (by simp;omega),ih _ (by simp;omega)];simp
include hF
theorem M62_L1_eq(k:List Tpolicy_ruling->Option (List Tpolicy_ruling)):∀(l:List TFact) (acc:List Tpolicy_ruling),acc.length+l.length<=5000->M62_L1 F p k l acc=k (acc++l.map (rul p))
 |[],acc,_=>by rw[M62_L1,List.map_nil,List.append_nil]
 |f::l,acc,hl=>by
  simp only[List.length_cons] at hl
  have h200:=(vP_zero h0).2.1
  rw[M62_L1,M117_eq hp h0 hF f]
  simp only[jn_def,Option.bind_some]
  have ih:=fun(x:Tpolicy_ruling)=>M62_L1_eq k l (acc++[x]) (by simp;omega)
  have hg:∀x:Tpolicy_ruling,(acc++[x]).length*40<=140737488355328:=fun x=>by simp;omega
  cases hr:ruleOf p f with
  |none=>
   have e:rul p f=⟨rf p f,1,[]⟩:=by unfold rul;rw[hr]
   rw[rf_none hr,if_neg (by decide),if_pos (hg _),ih,List.map_cons,e,rf_none hr];simp
  |some r=>
   obtain⟨e1,e2,e3⟩:=rf_some hr
   have e:rul p f=⟨rf p f,r.Level,idxs (forB r f) p.Waivers 0⟩:=by unfold rul;rw[hr]
   have h2:=M62_L2_eq hp (F:=F) f r (fun l23=>if (acc++[Tpolicy_ruling.mk (rf p f) r.Level l23]).length*40<=140737488355328 then M62_L1 F p k l (acc++[Tpolicy_ruling.mk (rf p f) r.Level l23]) else none) p.Waivers 0 [] (fun _ h=>h) (by simp;omega)
   rw[show((0:Nat):Int)=0 from rfl,List.nil_append] at h2
   rw[if_pos (decide_eq_true e1),e2,Option.bind_some,h2]
   rw[if_pos (hg _),ih,List.map_cons,e];simp
theorem M62_eq(l:List TFact)(hl:l.length<=5000):M62 F p l=some (l.map (rul p)):=by
 unfold M62
 rw[jn_def,M62_L1_eq hp h0 hF _ l [] (by simp;omega)];rfl
end
theorem M61_L2_eq(F:Nat)(p:TPolicy)(day:Int)(x:Tpolicy_ruling)(k:Int->Int->Option (List TDecision))(c:TWaiver->Bool):∀(l:List TWaiver) (n:Nat),p.Waivers.drop n=l->M61_L2 F p day x k (idxs c l n)=match fstW (fun w=>c w&&dayB day w) l n with|none=>k (-1) x.level|some (q,v)=>k q v
 |[],n,_=>by rw[idxs,M61_L2,fstW]
 |w::l,n,h=>by
  obtain⟨hn,hi,hm,hd⟩:=drop_cons h
  have ih:=M61_L2_eq F p day x k c l (n+1) hd
  rw[idxs,fstW]
  cases c w
  ·simp only[Bool.false_eq_true,if_false,Bool.false_and];exact ih
  ·simp only[if_true,Bool.true_and]
   rw[M61_L2,jn_def,hi,Option.bind_some,ih]
   unfold dayB
   by_cases a1:w.From<=day
   ·rw[if_pos (decide_eq_true a1),decide_eq_true a1]
    by_cases a2:day<=w.To
    ·rw[if_pos (decide_eq_true a2),decide_eq_true a2];rfl
    ·rw[if_neg (by simpa using a2),decide_eq_false a2];rfl
   ·rw[if_neg (by simpa using a1),decide_eq_false a1];rfl
theorem M61_L1_eq(F:Nat)(p:TPolicy)(day:Int)(k:List TDecision->Option (List TDecision)):∀(l:List TFact) (n:Nat) (acc:List TDecision),acc.length+l.length<=5000->M61_L1 F p day k (l.map (rul p)) (n:Int) acc=k (acc++dcds p day l n)
 |[],n,acc,_=>by rw[List.map_nil,M61_L1,dcds,List.append_nil]
 |f::l,n,acc,hl=>by
  simp only[List.length_cons] at hl
  rw[List.map_cons,M61_L1,dcds]
  simp only[jn_def]
  have ih:=fun(x:TDecision)=>M61_L1_eq F p day k l (n+1) (acc++[x]) (by simp;omega)
  have hg:∀x:TDecision,(acc++[x]).length*32<=140737488355328:=fun x=>by simp;omega
  rw[show((n:Int)+1)=((n+1:Nat):Int) from rfl]
  cases hr:ruleOf p f with
  |none=>
   have e:rul p f=⟨rf p f,1,[]⟩:=by unfold rul;rw[hr]
   have e2:dcd p day f n=⟨n,rf p f,-1,1⟩:=by unfold dcd;rw[hr]
   rw[e,M61_L2,if_pos (hg _),ih,e2];simp
  |some r=>
   have e:rul p f=⟨rf p f,r.Level,idxs (forB r f) p.Waivers 0⟩:=by unfold rul;rw[hr]
   rw[e,M61_L2_eq F p day _ _ (forB r f) p.Waivers 0 rfl]
   cases hw:fstW (fun w=>forB r f w&&dayB day w) p.Waivers 0 with
   |none=>
    have e2:dcd p day f n=⟨n,rf p f,-1,r.Level⟩:=by unfold dcd;rw[hr];dsimp only;rw[hw]
    dsimp only
    rw[if_pos (hg _),ih,e2];simp
   |some q=>
    obtain⟨q,v⟩:=q
    have e2:dcd p day f n=⟨n,rf p f,q,v⟩:=by unfold dcd;rw[hr];dsimp only;rw[hw]
    dsimp only
    rw[if_pos (hg _),ih,e2];simp
theorem M61_eq(F:Nat)(p:TPolicy)(day:Int)(l:List TFact)(hl:l.length<=5000):M61 F p (l.map (rul p)) day=some (dcds p day l 0):=by
 unfold M61
 have:=M61_L1_eq F p day (fun l5=>some l5) l 0 [] (by simp;omega)
 rw[show((0:Nat):Int)=0 from rfl,List.nil_append] at this
 rw[jn_def,this]
section
variable{p:TPolicy}(hp:okTPolicy p)(h0:vP p=0){F:Nat}(hF:fuP p<=F)
include hp h0 hF
omit h0 hF in
end
theorem vFs_zero{l:List TFact}(h:vFs l=0):l.length<=5000:=by
 unfold vFs at h
 split at h
 ·cases h
 ·omega
noncomputable def vD(p:TPolicy)(l:List TFact)(day:Int):Int:=if vP p=0 then (if vFs l=0 then (if (decide (day<0)||decide (day>1000000))=true then 9 else 0) else vFs l) else vP p
theorem M60_eq(p:TPolicy)(hp:okTPolicy p)(l:List TFact)(h:okFs l)(day:Int)(F:Nat)(hF:fuP p<=F):M60 F p l day=some (vD p l day):=by
 unfold M60 vD
 rw[M54_eq p hp F hF,Option.bind_some,M116_eq F l h,Option.bind_some]
 by_cases h1:vP p=0
 ·rw[if_neg (by simp[h1]),if_pos h1]
  by_cases h2:vFs l=0
  ·rw[if_neg (by simp[h2]),if_pos h2]
   cases decide (day<0)<;>cases decide (day>1000000)<;>rfl
  ·rw[if_pos (by simp[h2]),if_neg h2]
 ·rw[if_pos (by simp[h1]),if_neg h1]
noncomputable def dcV(p:TPolicy)(l:List TFact)(day:Int):List TDecision×Int:=if vD p l day=0 then (dcds p day l 0,0) else ([],vD p l day)
theorem vD_zero{p:TPolicy}{l:List TFact}{day:Int}(h:vD p l day=0):vP p=0/\vFs l=0/\(decide (day<0)||decide (day>1000000))=false:=by
 unfold vD at h
 by_cases h1:vP p=0
 ·rw[if_pos h1] at h
  by_cases h2:vFs l=0
  ·rw[if_pos h2] at h
   cases h3:(decide (day<0)||decide (day>1000000))
   ·exact⟨h1,h2,rfl⟩
   ·rw[if_pos h3] at h;cases h
  ·rw[if_neg h2] at h;exact absurd h h2
 ·rw[if_neg h1] at h;exact absurd h h1
theorem M19_eq(p:TPolicy)(hp:okTPolicy p)(l:List TFact)(h:okFs l)(day:Int)(F:Nat)(hF:fuP p<=F):M19 F p l day=some (dcV p l day):=by
 unfold M19 dcV
 rw[M60_eq p hp l h day F hF,Option.bind_some]
 by_cases h1:vD p l day=0
 ·obtain⟨h2,h3,h4⟩:=vD_zero h1
  rw[if_neg (by simp[h1]),if_pos h1,M62_eq hp h2 hF l (vFs_zero h3),Option.bind_some,M61_eq F p day l (vFs_zero h3)];rfl
 ·rw[if_pos (by simp[h1]),if_neg h1]
noncomputable def tq(r:TPolicyRule):Tr:=trE r.When
abbrev Pr:=Nat×TPolicyRule
def prA:List TPolicyRule->Nat->List Pr
 |[],_=>[]
 |r::l,n=>(n,r)::prA l (n+1)
def prK(k:Txt)(l:List TPolicyRule)(n:Nat):List Pr:=(prA l n).filter fun q=>q.2.About==k
def num(l:List Pr):List Int:=l.map fun q=>(q.1:Int)
theorem prA_get:∀{l:List TPolicyRule} {n:Nat} {q:Pr},q∈prA l n->n<=q.1/\l[q.1 - n]? = some q.2
 |r::l,n,q,h=>by
  rcases List.mem_cons.1 h with e|h
  ·subst e;simp
  ·obtain⟨h1,h2⟩:=prA_get h
   refine⟨by omega,?_⟩
   rw[show q.1 - n=(q.1 - (n+1))+1 by omega,List.getElem?_cons_succ]
   exact h2
theorem prA_of{l:List TPolicyRule}{i:Nat}{r:TPolicyRule}(h:l[i]? = some r):∀n,(n+i,r)∈prA l n:=by
 induction l generalizing i with
 |nil=>simp at h
 |cons x l ih=>
  intro n
  cases i with
  |zero=>simp at h;subst h;simp[prA]
  |succ i=>simp at h;have:=ih h (n+1);rw[prA];rw[show n+1+i=n+(i+1) by omega] at this;simp[this]
theorem prA_len:∀(l:List TPolicyRule) (n:Nat),(prA l n).length=l.length
 |[],_=>rfl
 |r::l,n=>by rw[prA,List.length_cons,prA_len l,List.length_cons]
theorem prK_len(k:Txt)(l:List TPolicyRule)(n:Nat):(prK k l n).length<=l.length:=by
 unfold prK
 have:=List.length_filter_le (fun q:Pr=>q.2.About==k) (prA l n)
 rw[prA_len] at this
 exact this
theorem prK_get{k:Txt}{l:List TPolicyRule}{q:Pr}(h:q∈prK k l 0):l[q.1]? = some q.2/\q.2.About=k:=by
 unfold prK at h
 obtain⟨h1,h2⟩:=List.mem_filter.1 h
 exact⟨(prA_get h1).2,by simpa using h2⟩
theorem idx_get{α:Type}{l:List α}{i:Nat}{x:α}(h:l[i]? = some x):idx l (i:Int)=some x:=by
 obtain⟨hn,e⟩:=List.getElem?_eq_some_iff.1 h
 rw[idx_nat hn,e]
theorem M55_L1_eq(F:Nat)(k:Txt)(kk:List Int->Option (List Int)):∀(l:List TPolicyRule) (n:Nat) (acc:List Int),acc.length+l.length<=1000->M55_L1 F k kk l (n:Int) acc=kk (acc++num (prK k l n))
 |[],n,acc,_=>by rw[M55_L1];simp[prK,prA,num]
 |r::l,n,acc,h=>by
  simp only[List.length_cons] at h
  rw[M55_L1,jn_def,show((n:Int)+1)=((n+1:Nat):Int) from rfl]
  have ih:=fun acc (ha:acc.length+l.length<=1000)=>M55_L1_eq F k kk l (n+1) acc ha
  unfold prK at ih ⊢
  rw[prA,List.filter_cons]
  cases hb:r.About==k
  ·simp only[Bool.false_eq_true,if_false]
   exact ih acc (by omega)
  ·simp only[if_true]
   rw[if_pos (by simp;omega),ih _ (by simp;omega)]
   simp[num]
theorem M55_eq(F:Nat)(p:TPolicy)(k:Txt)(h:p.Rules.length<=100):M55 F p k=some (num (prK k p.Rules 0)):=by
 unfold M55
 have:=M55_L1_eq F k (fun l4=>some l4) p.Rules 0 [] (by simp;omega)
 rw[show((0:Nat):Int)=0 from rfl] at this
 rw[jn_def,this,List.nil_append]
noncomputable def lvP(l:List Pr):List Lf:=l.flatMap fun q=>(tq q.2).lvs
noncomputable def tsP(l:List Pr):List Tr:=l.map fun q=>tq q.2
noncomputable def lsK(rs:List TPolicyRule)(k:Txt):List Lf:=lvP (prK k rs 0)
section
variable{p:TPolicy}(hp:okTPolicy p)(h0:vP p=0)
include hp h0
theorem rule_ok{q:Pr}(h:p.Rules[q.1]? = some q.2):q.2.When=(tq q.2).toT/\(tq q.2).ok/\(tq q.2).flt=0/\(tq q.2).cnt<=60/\(tq q.2).fu<=fuP p:=
 when_ok hp h0 (Nat.le_refl _) (List.mem_of_getElem? h)
theorem lvP_good{l:List Pr}(h:∀q,q∈l->p.Rules[q.1]? = some q.2)(hl:l.length<=100):GoodL (lvP l):=by
 refine⟨fun x hx=>?_,?_⟩
 ·obtain⟨q,hq,hx⟩:=List.mem_flatMap.1 hx
  exact lvs_ok _ (rule_ok hp h0 (h q hq)).2.2.1 x hx
 ·have:=flat_len (fun q:Pr=>(tq q.2).lvs) 60 l fun q hq=>by
   have h1:=(rule_ok hp h0 (h q hq)).2.2.2.1
   have:=lvs_len (tq q.2)
   omega
  unfold lvP
  omega
theorem lsK_good(k:Txt):GoodL (lsK p.Rules k):=
 lvP_good hp h0 (fun q hq=>(prK_get hq).1) (by have:=prK_len k p.Rules 0;have:=(vP_zero h0).1;omega)
theorem M56_L1_eq(F:Nat)(hF:fuP p<=F)(kk:MpS->List KV->Option (MpS×List KV)):∀(l:List Pr),(∀q,q∈l->p.Rules[q.1]? = some q.2)->∀(all:MpS) (B:Nat) (cs:List KV),Bd all B->B+50*(lvP l).length<=1000000->cs.length+l.length<=1000->
  M56_L1 F p kk (num l) all cs=kk ((lvP l).foldl addL all) (cs++(tsP l).map Tr.cd)
 |[],_,all,B,cs,_,_,_=>by simp[num,lvP,tsP,M56_L1]
 |q::l,h,all,B,cs,hB,hb,hc=>by
  have hq:=h q (by simp)
  obtain⟨e1,e2,e3,e4,e5⟩:=rule_ok hp h0 hq
  have hlv:lvP (q::l)=(tq q.2).lvs++lvP l:=by simp[lvP]
  rw[hlv,List.length_append] at hb
  simp only[List.length_cons] at hc
  have hlo:=lvs_ok _ e3
  rw[show num (q::l)=(q.1:Int)::num l from rfl,M56_L1,idx_get hq,Option.bind_some,e1,M32_tr _ e2 e3 e4 F (by omega),Option.bind_some,M33_ok _ e2 e3 F (by omega) all B hB (by omega),Option.bind_some,if_pos (by simp;omega),
   M56_L1_eq F hF kk l (fun x hx=>h x (by simp[hx])) _ _ _ (fold_bd _ all B hB hlo) (by omega) (by simp;omega),hlv,List.foldl_append]
  simp[tsP]
theorem M56_eq(F:Nat)(hF:fuP p<=F){l:List Pr}(h:∀q,q∈l->p.Rules[q.1]? = some q.2)(hl:l.length<=100):M56 F p (num l) []=some (allL (lvP l),(tsP l).map Tr.cd):=by
 unfold M56
 have:=(lvP_good hp h0 h hl).2
 rw[jn_def,M56_L1_eq hp h0 F hF _ l h [] 0 [] ⟨fun n=>by simp[mget],fun n=>by simp[subj,mget,sub0]⟩ (by omega) (by simp;omega)]
 rfl
end
noncomputable def f3(s:Txt->Option Fd):List Tr->Nat->Option Bool
 |[],_=>some false
 |t::_,0=>t.tr3 s
 |t::r,j+1=>and3 ((t.tr3 s).map (!·)) (f3 s r j)
noncomputable def fA(v:Txt->Fd):List Tr->Nat->Bool
 |[],_=>false
 |t::_,0=>t.truA v
 |t::r,j+1=>!(t.truA v)&&fA v r j
theorem map_not{a:Option Bool}{c:Bool}(h:a.map (!·)=some c):a=some (!c):=by
 cases a with
 |none=>cases h
 |some b=>simp at h;subst h;simp
theorem f3_mono{s s':Txt->Option Fd}(he:ext s s'):∀(ts:List Tr) (j:Nat) (b:Bool),f3 s ts j=some b->f3 s' ts j=some b
 |[],_,b,h=>h
 |t::r,0,b,h=>tr3_mono he t b h
 |t::r,j+1,b,h=>by
  rw[f3] at h ⊢
  exact and3_mono (fun c hc=>by rw[tr3_mono he t _ (map_not hc)];simp) (fun c hc=>f3_mono he r j c hc) h
theorem f3_full{s:Txt->Option Fd}{a:Txt->Fd}:∀(ts:List Tr) (j:Nat),(∀t,t∈ts->∀l,l∈t.lvs->s l.nm=some (a l.nm))->f3 s ts j=some (fA a ts j)
 |[],_,h=>rfl
 |t::r,0,h=>tr3_full t (h t (by simp))
 |t::r,j+1,h=>by
  rw[f3,fA,tr3_full t (h t (by simp)),f3_full r j fun u hu=>h u (by simp[hu])]
  cases t.truA a<;>cases fA a r j<;>rfl
theorem fA_congr{a b:Txt->Fd}:∀(ts:List Tr) (j:Nat),(∀t,t∈ts->∀l,l∈t.lvs->l.one (a l.nm)=l.one (b l.nm))->fA a ts j=fA b ts j
 |[],_,h=>rfl
 |t::r,0,h=>truA_congr t (h t (by simp))
 |t::r,j+1,h=>by
  rw[fA,fA,truA_congr t (h t (by simp)),fA_congr r j fun u hu=>h u (by simp[hu])]
theorem cond_first(l:List Pr)(j:Nat):Cond3 (lvP l) (fun s=>f3 s (tsP l) j) (fun v=>fA v (tsP l) j):=by
 have hm:∀t x,t∈tsP l->x∈t.lvs->x∈lvP l:=fun t x ht hx=>by
  obtain⟨q,hq,e⟩:=List.mem_map.1 ht
  exact List.mem_flatMap.2 ⟨q,hq,e ▸ hx⟩
 exact⟨fun s s' b he h=>f3_mono he _ j b h,fun s a h=>f3_full _ j fun t ht x hx=>h x (hm t x ht hx),fun a b h=>fA_congr _ j fun t ht x hx=>h x (hm t x ht hx)⟩
theorem M50_3(F:Nat)(b:Option Bool):M50 F (tv3 b)=some (tv3 (b.map (!·))):=by
 cases b with
 |none=>rfl
 |some b=>cases b<;>rfl
theorem M58_L1_eq(F:Nat)(n:Nat)(m:MpV)(kn:MpB):∀(ts:List Tr) (j i:Nat),(∀t,t∈ts->t.ok/\t.flt=0/\t.fu<=F)->i+j=n->j<ts.length->∀o:Option Bool,o≠some false->
  M58_L1 F (n:Int) ⟨m,some kn⟩ (fun x=>some x) ((ts.take (j+1)).map Tr.cd) (i:Int) (tv3 o)=some (tv3 (and3 o (f3 (sgm m kn) ts j)))
 |t::r,0,i,h,hn,hj,o,ho=>by
  obtain⟨e1,e2,e3⟩:=h t (by simp)
  rw[show((t::r).take (0+1)).map Tr.cd=[t.cd] from rfl,M58_L1,hold3 m kn t e1 e2 F e3,Option.bind_some]
  simp only[jn_def]
  rw[if_neg (by simp;omega),f3]
  cases hx:t.tr3 (sgm m kn) with
  |none=>cases o with
   |none=>rfl
   |some c=>cases c with
    |true=>rfl
    |false=>exact absurd rfl ho
  |some c=>cases c<;>cases o with
   |none=>rfl
   |some d=>cases d with
    |true=>rfl
    |false=>exact absurd rfl ho
 |t::r,j+1,i,h,hn,hj,o,ho=>by
  obtain⟨e1,e2,e3⟩:=h t (by simp)
  have ih:=fun o ho=>M58_L1_eq F n m kn r j (i+1) (fun u hu=>h u (by simp[hu])) (by omega) (by simpa using hj) o ho
  rw[show((i+1:Nat):Int)=(i:Int)+1 from rfl] at ih
  rw[show((t::r).take (j+1+1)).map Tr.cd=t.cd::(r.take (j+1)).map Tr.cd from rfl,M58_L1,hold3 m kn t e1 e2 F e3,Option.bind_some]
  simp only[jn_def]
  rw[if_pos (by simp;omega),M50_3,Option.bind_some,f3]
  cases hx:t.tr3 (sgm m kn) with
  |none=>
   show M58_L1 F (n:Int) ⟨m,some kn⟩ (fun x=>some x) ((r.take (j+1)).map Tr.cd) ((i:Int)+1) (tv3 none)=_
   rw[ih none (by simp)]
   cases o with
   |none=>cases f3 (sgm m kn) r j with
    |none=>rfl
    |some c=>cases c<;>rfl
   |some c=>cases c with
    |true=>rfl
    |false=>exact absurd rfl ho
  |some c=>cases c with
   |false=>
    show M58_L1 F (n:Int) ⟨m,some kn⟩ (fun x=>some x) ((r.take (j+1)).map Tr.cd) ((i:Int)+1) (tv3 o)=_
    rw[ih o ho];rfl
   |true=>cases o with
    |none=>rfl
    |some c=>cases c with
     |true=>rfl
     |false=>exact absurd rfl ho
theorem M57_eq(F:Nat){m:MpV}{kn:MpB}{s:Asg}(hs:Std m kn s)(ts:List Tr)(j:Nat)(h:∀t,t∈ts->t.ok/\t.flt=0/\t.fu<=F)(hj:j<ts.length)(hl:ts.length<=1000):M57 F ⟨m,some kn⟩ (ts.map Tr.cd) (j:Int)=some (tv3 (f3 (asF s) ts j)):=by
 have:=M58_L1_eq F j m kn ts j 0 h (by omega) hj (some true) (by simp)
 rw[hs.sgm,show tv3 (some true)=1 from rfl,show((0:Nat):Int)=0 from rfl] at this
 unfold M57 M58
 rw[w64_id (by omega) (by omega),show((j:Int)+1).toNat=j+1 by omega,if_pos ⟨by omega,by simp;omega⟩,jn_def,<-List.map_take,this]
 rfl
def firstI(rs:List TPolicyRule)(i:Nat)(v:Txt->Fd):Prop:=∃r,rs[i]? = some r/\(tq r).truA v=true/\∀j r',j<i->rs[j]? = some r'->r'.About=r.About->(tq r').truA v=false
open Classical in
noncomputable def deadI(rs:List TPolicyRule)(i:Nat):Bool:=decide (¬∃v:Txt->Fd,(∀n,okV (v n))/\firstI rs i v)
theorem fA_first(k:Txt)(v:Txt->Fd):∀(l:List TPolicyRule) (n j:Nat) (q:Pr),(prK k l n)[j]? = some q->
  (fA v (tsP (prK k l n)) j=true<->(tq q.2).truA v=true/\∀i r',n<=i->i<q.1->l[i - n]? = some r'->r'.About=k->(tq r').truA v=false)
 |[],n,j,q,h=>by simp[prK,prA] at h
 |x::l,n,j,q,h=>by
  have ih:=fun j q h=>fA_first k v l (n+1) j q h
  have step:∀i,n+1<=i->(x::l)[i - n]? = l[i - (n+1)]?:=fun i hi=>by rw[show i - n=(i - (n+1))+1 by omega,List.getElem?_cons_succ]
  unfold prK at h ih ⊢
  rw[prA,List.filter_cons] at h ⊢
  cases hb:x.About==k
  ·simp only[hb,Bool.false_eq_true,if_false] at h ⊢
   rw[ih j q h]
   refine and_congr_right fun _=>⟨fun a i r' h1 h2 h3 h4=>?_,fun a i r' h1 h2 h3 h4=>a i r' (by omega) h2 (by rw[step i h1];exact h3) h4⟩
   rcases Nat.lt_or_ge n i with h5|h5
   ·exact a i r' h5 h2 (by rw[<-step i h5];exact h3) h4
   ·have:i=n:=by omega
    subst this
    simp at h3
    subst h3
    rw[h4] at hb;simp at hb
  ·simp only[hb,if_true] at h ⊢
   cases j with
   |zero=>
    simp at h;subst h
    show(tq x).truA v=true<->_
    exact⟨fun a=>⟨a,fun i r' h1 h2=>absurd h1 (by omega)⟩,fun a=>a.1⟩
   |succ j=>
    simp at h
    have hq:n+1<=q.1:=(prA_get (List.mem_filter.1 (List.mem_of_getElem? h)).1).1
    show((!(tq x).truA v)&&fA v (tsP ((prA l (n+1)).filter fun q=>q.2.About==k)) j)=true<->_
    rw[Bool.and_eq_true,ih j q h]
    constructor
    ·rintro⟨a1,a2,a3⟩
     refine⟨a2,fun i r' h1 h2 h3 h4=>?_⟩
     rcases Nat.lt_or_ge n i with h5|h5
     ·exact a3 i r' h5 h2 (by rw[<-step i h5];exact h3) h4
     ·have:i=n:=by omega
      subst this
      simp at h3
      subst h3
      simpa using a1
    ·rintro⟨a2,a3⟩
     refine⟨?_,a2,fun i r' h1 h2 h3 h4=>a3 i r' (by omega) h2 (by rw[step i h1];exact h3) h4⟩
     have:=a3 n x (Nat.le_refl _) (by omega) (by simp) (by simpa using hb)
     simp[this]
theorem dead_at{rs:List TPolicyRule}{k:Txt}{j:Nat}{q:Pr}(h:(prK k rs 0)[j]? = some q):ExA (fun v=>fA v (tsP (prK k rs 0)) j)<->deadI rs q.1=false:=by
 have hq:=prK_get (List.mem_of_getElem? h)
 unfold deadI
 rw[decide_eq_false_iff_not,Classical.not_not]
 refine⟨fun⟨v,hv,a⟩=>⟨v,hv,?_⟩,fun⟨v,hv,a⟩=>⟨v,hv,?_⟩⟩
 ·obtain⟨a1,a2⟩:=(fA_first k v rs 0 j q h).1 a
  exact⟨q.2,hq.1,a1,fun i r' h1 h2 h3=>a2 i r' (Nat.zero_le _) h1 h2 (h3.trans hq.2)⟩
 ·obtain⟨r,b1,b2,b3⟩:=a
  rw[hq.1] at b1
  cases b1
  exact(fA_first k v rs 0 j q h).2 ⟨b2,fun i r' _ h1 h2 h3=>b3 i r' h1 h2 (h3.trans hq.2.symm)⟩
theorem filt_perm{α:Type}{f g:α->Bool}:∀A:List α,(∀x,x∈A->f x=true->g x=false)->(A.filter f++A.filter g).Perm (A.filter fun x=>f x||g x)
 |[],_=>by simp
 |x::A,h=>by
  have ih:=filt_perm A fun y hy=>h y (by simp[hy])
  rw[List.filter_cons,List.filter_cons,List.filter_cons]
  cases hf:f x
  ·cases hg:g x
   ·simpa using ih
   ·simp only[Bool.false_eq_true,if_false,if_true,Bool.or_true]
    exact List.perm_middle.trans (ih.cons x)
  ·rw[h x (by simp) hf]
   simpa using ih
noncomputable def dds(rs:List TPolicyRule)(seen:Txt->Bool):List Int:=num ((prA rs 0).filter fun q=>seen q.2.About&&deadI rs q.1)
theorem dds_len(rs:List TPolicyRule)(seen:Txt->Bool):(dds rs seen).length<=rs.length:=by
 have h2:=List.length_filter_le (fun q:Pr=>seen q.2.About&&deadI rs q.1) (prA rs 0)
 rw[prA_len] at h2
 unfold dds num
 rw[List.length_map]
 exact h2
noncomputable def fewK(rs:List TPolicyRule)(k:Txt):Bool:=fewL (lsK rs k)
section
variable{p:TPolicy}(hp:okTPolicy p)(h0:vP p=0)
include hp h0
theorem M18_L2_eq(F:Nat)(hF:fuP p+700200<=F)(k:Txt)(hf:fewK p.Rules k=true)(kk:List Int->Option (List Int×Int)):∀(m j:Nat),j+m=(prK k p.Rules 0).length->∀acc:List Int,acc.length+m<=1000->
  M18_L2 F (allL (lsK p.Rules k),(tsP (prK k p.Rules 0)).map Tr.cd) kk (num ((prK k p.Rules 0).drop j)) (j:Int) acc=kk (acc++num (((prK k p.Rules 0).drop j).filter fun q=>deadI p.Rules q.1))
 |0,j,hj,acc,_=>by rw[List.drop_eq_nil_of_le (by omega)];simp[num,M18_L2]
 |m+1,j,hj,acc,ha=>by
  have hn:j<(prK k p.Rules 0).length:=by omega
  have hlen:(prK k p.Rules 0).length<=100:=by have:=prK_len k p.Rules 0;have:=(vP_zero h0).1;omega
  have ih:=fun acc ha=>M18_L2_eq F hF k hf kk m (j+1) (by omega) acc ha
  rw[show((j+1:Nat):Int)=(j:Int)+1 from rfl] at ih
  have hts:∀t,t∈tsP (prK k p.Rules 0)->t.ok/\t.flt=0/\t.fu<=fuP p:=fun t ht=>by
   obtain⟨q,hq,e⟩:=List.mem_map.1 ht
   have:=rule_ok hp h0 (prK_get hq).1
   rw[<-e]
   exact⟨this.2.1,this.2.2.1,this.2.2.2.2⟩
  have htl:(tsP (prK k p.Rules 0)).length=(prK k p.Rules 0).length:=by simp[tsP]
  obtain⟨by_,m',kn',r,g1,g2,g3,-⟩:=prog_find (lsK_good hp h0 k) hf (cond_first (prK k p.Rules 0) j) (fuP p) ((tsP (prK k p.Rules 0)).map Tr.cd) (j:Int) (fun G m kn s hG hs=>M57_eq G hs _ j (fun t ht=>⟨(hts t ht).1,(hts t ht).2.1,by have:=(hts t ht).2.2;omega⟩) (by omega) (by omega)) F (by omega)
  have hd:=dead_at (rs:=p.Rules) (k:=k) (j:=j) (q:=(prK k p.Rules 0)[j]) (List.getElem?_eq_getElem hn)
  rw[List.drop_eq_getElem_cons hn,show ∀(q:Pr) l,num (q::l)=(q.1:Int)::num l from fun _ _=>rfl,M18_L2,g1,Option.bind_some,g2,Option.bind_some,jn_def,List.filter_cons]
  cases r with
  |true=>
   rw[hd.1 (g3.1 rfl)]
   simp only[Bool.not_true,Bool.false_eq_true,if_false]
   exact ih acc (by omega)
  |false=>
   have:deadI p.Rules (prK k p.Rules 0)[j].1=true:=by
    cases h:deadI p.Rules (prK k p.Rules 0)[j].1
    ·exact absurd (g3.2 (hd.2 h)) (by simp)
    ·rfl
   rw[this]
   simp only[Bool.not_false,if_true]
   rw[if_pos (by simp;omega),ih _ (by simp;omega)]
   simp[num]
theorem M18_L1_eq(F:Nat)(hF:fuP p+700200<=F)(k5:List Int->Option (List Int×Int)):∀(l:List TPolicyRule),(∀r,r∈l->r∈p.Rules)->∀(m:MpB) (seen:Txt->Bool) (acc:List Int),(∀n,(mget m n).getD false=seen n)->acc.Perm (dds p.Rules seen)->
  (∃acc',M18_L1 F p k5 l m acc=k5 acc'/\acc'.Perm (dds p.Rules fun n=>seen n||l.any fun r=>r.About==n)/\∀r,r∈l->seen r.About=false->fewK p.Rules r.About=true)\/(M18_L1 F p k5 l m acc=some ([],3)/\∃r,r∈l/\fewK p.Rules r.About=false)
 |[],_,m,seen,acc,_,ha=>Or.inl ⟨acc,rfl,by simpa using ha,by simp⟩
 |r::l,h,m,seen,acc,hm,ha=>by
  have hlen:(prK r.About p.Rules 0).length<=100:=by have:=prK_len r.About p.Rules 0;have:=(vP_zero h0).1;omega
  rw[M18_L1,jn_def,hm]
  cases hs:seen r.About
  ·rw[if_neg (by simp),M55_eq F p _ (vP_zero h0).1,Option.bind_some,M56_eq hp h0 F (by omega) (fun q hq=>(prK_get hq).1) hlen,Option.bind_some]
   dsimp only
   rw[show lvP (prK r.About p.Rules 0)=lsK p.Rules r.About from rfl,M34_L F (lsK_good hp h0 r.About),Option.bind_some]
   cases hf:fewL (lsK p.Rules r.About)
   ·exact Or.inr ⟨rfl,r,by simp,hf⟩
   ·have hL2:=M18_L2_eq hp h0 F hF r.About hf (fun l28=>M18_L1 F p k5 l (mput m r.About true) l28) (prK r.About p.Rules 0).length 0 (by omega) acc (by
     have h1:=ha.length_eq
     have h2:=dds_len p.Rules seen
     have:=(vP_zero h0).1
     omega)
    rw[List.drop_zero,show((0:Nat):Int)=0 from rfl] at hL2
    simp only[Bool.not_true,Bool.false_eq_true,if_false,jn_def]
    rw[hL2]
    have hperm:(acc++num ((prK r.About p.Rules 0).filter fun q=>deadI p.Rules q.1)).Perm (dds p.Rules fun n=>seen n||(r.About==n)):=by
     refine(ha.append_right _).trans ?_
     unfold dds num prK
     rw[<-List.map_append,List.filter_filter]
     refine((filt_perm _ fun q hq h1=>?_).trans (List.Perm.of_eq (List.filter_congr fun q hq=>?_))).map _
     ·simp only[Bool.and_eq_true] at h1
      cases h2:q.2.About==r.About
      ·simp
      ·rw[show q.2.About=r.About by simpa using h2,hs] at h1;exact absurd h1.1 (by simp)
     ·dsimp only
      rw[beqC r.About q.2.About]
      cases seen q.2.About<;>cases q.2.About==r.About<;>cases deadI p.Rules q.1<;>rfl
    rcases M18_L1_eq F hF k5 l (fun u hu=>h u (by simp[hu])) (mput m r.About true) (fun n=>seen n||(r.About==n)) _ (fun n=>by
     rw[mget_mput]
     by_cases e:r.About=n
     ·rw[if_pos e];simp[e]
     ·rw[if_neg e,hm,beq_false_of_ne e];simp) hperm with ⟨acc',e1,e2,e3⟩|⟨e1,r',e2,e3⟩
    ·refine Or.inl ⟨acc',e1,?_,fun r' hr' hn=>?_⟩
     ·have:(fun n=>seen n||(r::l).any fun r=>r.About==n)=fun n=>(seen n||(r.About==n))||l.any fun r=>r.About==n:=by
       funext n;rw[List.any_cons,Bool.or_assoc]
      rw[this];exact e2
     ·rcases List.mem_cons.1 hr' with e|hr'
      ·subst e;exact hf
      ·by_cases e:r.About=r'.About
       ·rw[<-e];exact hf
       ·exact e3 r' hr' (by rw[hn,beq_false_of_ne e];rfl)
    ·exact Or.inr ⟨e1,r',by simp[e2],e3⟩
  ·rw[if_pos rfl]
   rcases M18_L1_eq F hF k5 l (fun u hu=>h u (by simp[hu])) m seen acc hm ha with ⟨acc',e1,e2,e3⟩|⟨e1,r',e2,e3⟩
   ·refine Or.inl ⟨acc',e1,?_,fun r' hr' hn=>?_⟩
    ·have:(fun n=>seen n||(r::l).any fun r=>r.About==n)=fun n=>seen n||l.any fun r=>r.About==n:=by
      funext n
      rw[List.any_cons]
      by_cases e:r.About=n
      ·rw[<-e,hs];rfl
      ·rw[beq_false_of_ne e];rfl
     rw[this];exact e2
    ·rcases List.mem_cons.1 hr' with e|hr'
     ·subst e;rw[hs] at hn;cases hn
     ·exact e3 r' hr' hn
   ·exact Or.inr ⟨e1,r',by simp[e2],e3⟩
theorem M18_ok(F:Nat)(hF:fuP p+700200<=F):
  (∃l,M18 F p=some (isort l,0)/\l.Perm (dds p.Rules fun _=>true)/\∀r,r∈p.Rules->fewK p.Rules r.About=true)\/(M18 F p=some ([],3)/\∃r,r∈p.Rules/\fewK p.Rules r.About=false):=by
 have h100:=(vP_zero h0).1
 unfold M18
 rw[M54_eq p hp F (by omega),h0,Option.bind_some,if_neg (by decide),jn_def]
 rcases M18_L1_eq hp h0 F hF (fun l6=>(M59 F l6).bind fun y46=>if y46.length=l6.length then some (y46,0) else none) p.Rules (fun _ h=>h) [] (fun _=>false) [] (fun n=>rfl) (by simp[dds,num]) with ⟨l,e1,e2,e3⟩|⟨e1,e2⟩
 ·refine Or.inl ⟨l,?_,e2.trans (List.Perm.of_eq ?_),fun r hr=>e3 r hr rfl⟩
  ·rw[e1]
   have hl:l.length<=100:=by
    have h1:=e2.length_eq
    have h2:=dds_len p.Rules (fun n=>false||p.Rules.any fun r=>r.About==n)
    omega
   unfold M59
   rw[if_pos (by omega),Option.bind_some,if_pos (by unfold isort;rw[List.length_mergeSort])]
  ·unfold dds
   congr 1
   refine List.filter_congr fun q hq=>?_
   have:(p.Rules.any fun r=>r.About==q.2.About)=true:=List.any_eq_true.2 ⟨q.2,List.mem_of_getElem? (prA_get hq).2,by simp⟩
   dsimp only
   rw[this];rfl
 ·exact Or.inr ⟨e1,e2⟩
end
theorem dds_mem{rs:List TPolicyRule}{x:Int}:x∈dds rs (fun _=>true)<->∃i:Nat,x=(i:Int)/\i<rs.length/\deadI rs i=true:=by
 unfold dds num
 constructor
 ·intro h
  obtain⟨q,hq,e⟩:=List.mem_map.1 h
  obtain⟨h1,h2⟩:=List.mem_filter.1 hq
  have h3:=(prA_get h1).2
  exact⟨q.1,e.symm,(List.getElem?_eq_some_iff.1 h3).1,by simpa using h2⟩
 ·rintro⟨i,rfl,hi,hd⟩
  have:=prA_of (List.getElem?_eq_getElem hi) 0
  rw[Nat.zero_add] at this
  exact List.mem_map.2 ⟨(i,rs[i]),List.mem_filter.2 ⟨this,by simp[hd]⟩,rfl⟩
end Go.Proofs.YtelmfadihfcgnaaGreatDoor
