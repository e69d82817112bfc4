/- Part of the proof: D5QD, D5QE, XR, D5QF, D5QG, D5QH, D5QI, D5QJ. -/
import Derived.Test.YtelmfadihfcgnaaGreatDoorDD5QC
import Derived.Test.YtelmfadihfcgnaaGreatDoorDD5PB
import Derived.Test.YtelmfadihfcgnaaGreatDoorDDK
namespace Go.Proofs.YtelmfadihfcgnaaGreatDoor
open Go Go.Pv
set_option linter.unusedVariables false
set_option linter.unusedSimpArgs false
set_option maxRecDepth 1000000
theorem bcg{α β:Type}{o o':Option α}(h:o=o'){f g:α->Option β}(hfg:∀y,f y=g y):o.bind f=o'.bind g:=by
 subst h
 exact congrArg o.bind (funext hfg)
abbrev StC:=List (Tpolicy_value×Bool)×List (Txt×List Tpolicy_value)
def foldR(R:StC->Tpolicy_value->Option StC):List Tpolicy_value->StC->Option StC
 |[],p=>some p
 |x::l,p=>(R p x).bind (foldR R l)
theorem foldR_app(R:StC->Tpolicy_value->Option StC):∀(l l':List Tpolicy_value) (p:StC),foldR R (l++l') p=(foldR R l p).bind (foldR R l')
 |[],l',p=>rfl
 |x::l,l',p=>by
  show(R p x).bind (foldR R (l++l'))=((R p x).bind (foldR R l)).bind (foldR R l')
  rw[Option.bind_assoc]
  congr 1
  funext q
  exact foldR_app R l l' q
def nv(n:Int):Tpolicy_value:=⟨false,true,[],n⟩
def tvs(t:Txt)(v:Tpolicy_value):Tpolicy_value:=⟨true,v.hasNumber,t,v.number⟩
def numsL(s:Tpolicy_subject)(nums:List Int):List Tpolicy_value:=zV::(if (s.asNo||s.has)=true then nums.map nv else [])
def cellsL(s:Tpolicy_subject)(nums:List Int)(txs:List Txt):List Tpolicy_value:=
 numsL s nums++(if (s.asText||s.has)=true then txs.flatMap (fun t=>(numsL s nums).map (tvs t)) else [])
section
variable(R0:StC->Tpolicy_value->Option StC)(F:Nat)
theorem M90_L1_eq(k:List Tpolicy_value->Option StC):∀(l:List Int) (acc:List Tpolicy_value),acc.length+l.length<=1000000000000->M90_L1 F k l acc=k (acc++l.map nv)
 |[],acc,_=>by rw[M90_L1];simp
 |x::l,acc,h=>by
  simp only[List.length_cons] at h
  rw[M90_L1,if_pos (by simp;omega),M90_L1_eq k l _ (by simp;omega)]
  simp[nv]
theorem M90_L2_eq(k:List (Tpolicy_value×Bool)->List (Txt×List Tpolicy_value)->Option StC):∀(l:List Tpolicy_value) (p:StC),M90_L2 R0 F k l p.1 p.2=(foldR R0 l p).bind fun q=>k q.1 q.2
 |[],p=>by rw[M90_L2];rfl
 |x::l,p=>by
  rw[M90_L2]
  show _=((R0 p x).bind (foldR R0 l)).bind fun q=>k q.1 q.2
  rw[Option.bind_assoc]
  exact bcg rfl fun y=>M90_L2_eq k l y
theorem M90_L4_eq(t:Txt)(k:List (Tpolicy_value×Bool)->List (Txt×List Tpolicy_value)->Option StC):∀(l:List Tpolicy_value) (p:StC),M90_L4 R0 F t k l p.1 p.2=(foldR R0 (l.map (tvs t)) p).bind fun q=>k q.1 q.2
 |[],p=>by rw[M90_L4];rfl
 |x::l,p=>by
  rw[M90_L4]
  show _=((R0 p (tvs t x)).bind (foldR R0 (l.map (tvs t)))).bind fun q=>k q.1 q.2
  rw[Option.bind_assoc]
  exact bcg rfl fun y=>M90_L4_eq t k l y
theorem M90_L3_eq(vs:List Tpolicy_value):∀(l:List Txt) (p:StC),M90_L3 R0 F vs l p.1 p.2=foldR R0 (l.flatMap fun t=>vs.map (tvs t)) p
 |[],p=>by rw[M90_L3];rfl
 |t::l,p=>by
  rw[M90_L3,jn_def,jn_def,M90_L4_eq,List.flatMap_cons,foldR_app]
  exact bcg rfl fun y=>M90_L3_eq vs l y
theorem M90_eq(s:Tpolicy_subject)(nums:List Int)(txs:List Txt)(h1:M131 F s=some nums)(h2:M132 F s=some txs)(hn:nums.length<=1000000)(p:StC):
  M90 R0 F s.is s.begins s.numbers s.asText s.asNo s.has s.weight p.1 p.2=foldR R0 (cellsL s nums txs) p:=by
 obtain⟨a1,a2,a3,a4,a5,a6,a7⟩:=s
 unfold M90 cellsL numsL
 dsimp only
 have hz:(Tpolicy_value.mk false false ([]:List UInt8) 0)=zV:=rfl
 cases a5 with
 |true=>
  rw[if_pos rfl,h1,Option.bind_some,jn_def,M90_L1_eq F _ _ _ (by simp;omega),jn_def,M90_L2_eq]
  rw[hz,show((true||a6):Bool)=true from rfl,if_pos rfl,foldR_app R0 (zV::List.map nv nums)]
  refine bcg rfl fun y=>?_
  cases a4 with
  |false=>
   rw[if_pos (by decide)]
   cases a6 with
   |false=>rw[if_pos (by decide)];rfl
   |true=>rw[if_neg (by decide),h2,Option.bind_some,M90_L3_eq];rfl
  |true=>rw[if_neg (by decide),h2,Option.bind_some,M90_L3_eq];rfl
 |false=>
  rw[if_neg (by decide),jn_def]
  have key:∀vs:List Tpolicy_value,(jn (fun(m116:List (Tpolicy_value×Bool)) (m117:List ((List UInt8)×(List Tpolicy_value)))=>if (!a4)=true then if (!a6)=true then some (m116,m117)
    else (M132 F (Tpolicy_subject.mk a1 a2 a3 a4 false a6 a7)).bind fun y132=>M90_L3 R0 F vs y132 m116 m117
    else (M132 F (Tpolicy_subject.mk a1 a2 a3 a4 false a6 a7)).bind fun y162=>M90_L3 R0 F vs y162 m116 m117) (fun k115=>M90_L2 R0 F k115 vs p.1 p.2)) =
    foldR R0 (vs++if (a4||a6)=true then txs.flatMap (fun t=>vs.map (tvs t)) else []) p:=by
   intro vs
   rw[jn_def,M90_L2_eq,foldR_app]
   refine bcg rfl fun y=>?_
   cases a4 with
   |false=>
    rw[if_pos (by decide)]
    cases a6 with
    |false=>rw[if_pos (by decide)];rfl
    |true=>rw[if_neg (by decide),h2,Option.bind_some,M90_L3_eq];rfl
   |true=>rw[if_neg (by decide),h2,Option.bind_some,M90_L3_eq];rfl
  cases a6 with
  |true=>
   rw[if_pos rfl,h1,Option.bind_some,jn_def,M90_L1_eq F _ _ _ (by simp;omega)]
   exact key _
  |false=>
   rw[if_neg (by decide)]
   exact key _
end
theorem R2_fold(F:Nat)(nm:Txt):∀(l:List Tpolicy_value) (p:StC),(∀x,(mget p.1 x).getD false=true<->x∈(mget p.2 nm).getD [])->((mget p.2 nm).getD []).length+l.length<=1000000000000->KN p.2->
  ∃q:StC,foldR (fun p x=>M35_R2 F nm p.1 p.2 x) l p=some q/\(∀x,x∈(mget q.2 nm).getD []<->x∈(mget p.2 nm).getD []\/x∈l)/\(∀k,k≠nm->mget q.2 k=mget p.2 k)/\KN q.2
 |[],p,_,_,hk=>⟨p,rfl,fun x=>by simp,fun _ _=>rfl,hk⟩
 |x::l,p,h1,h2,hk=>by
  simp only[List.length_cons] at h2
  show ∃q,(M35_R2 F nm p.1 p.2 x).bind _=some q/\_
  unfold M35_R2
  rw[jn_def]
  cases hs:(mget p.1 x).getD false with
  |true=>
   have hx:=(h1 x).1 hs
   obtain⟨q,g1,g2,g3,g4⟩:=R2_fold F nm l p h1 (by omega) hk
   refine⟨q,by rw[if_neg (by decide),Option.bind_some];exact g1,fun y=>?_,g3,g4⟩
   rw[g2 y,List.mem_cons]
   constructor
   ·rintro(h|h)
    ·exact .inl h
    ·exact .inr (.inr h)
   ·rintro(h|h|h)
    ·exact .inl h
    ·rw[h];exact .inl hx
    ·exact .inr h
  |false=>
   have hg:(mget (mput p.2 nm ((mget p.2 nm).getD []++[x])) nm).getD []=(mget p.2 nm).getD []++[x]:=by rw[mget_mput,if_pos rfl];rfl
   obtain⟨q,g1,g2,g3,g4⟩:=R2_fold F nm l (mput p.1 x true,mput p.2 nm ((mget p.2 nm).getD []++[x])) (fun y=>by
    dsimp only
    rw[hg,mget_mput,List.mem_append,List.mem_singleton]
    by_cases e:x=y
    ·rw[if_pos e];simp[e]
    ·rw[if_neg e,h1 y]
     exact⟨.inl,fun h=>h.elim id fun h=>absurd h.symm e⟩) (by dsimp only;rw[hg];simp;omega) hk.put
   refine⟨q,by rw[if_pos (by decide),if_pos (by simp;omega),Option.bind_some];exact g1,fun y=>?_,fun k hk=>?_,g4⟩
   ·rw[g2 y]
    dsimp only
    rw[hg,List.mem_append,List.mem_singleton,List.mem_cons]
    constructor
    ·rintro((h|h)|h)
     ·exact .inl h
     ·exact .inr (.inl h)
     ·exact .inr (.inr h)
    ·rintro(h|h|h)
     ·exact .inl (.inl h)
     ·exact .inl (.inr h)
     ·exact .inr h
   ·rw[g3 k hk]
    dsimp only
    rw[mget_mput,if_neg (Ne.symm hk)]
abbrev MpS:=List (Txt×Option Tpolicy_subject)
structure Gv(F:Nat)(s:Tpolicy_subject)(nums:List Int)(txs:List Txt):Prop where
 n:M131 F s=some nums
 t:M132 F s=some txs
 ln:nums.length<=1000000
 lc:(cellsL s nums txs).length<=1000000000000
theorem M35_L1_ok(F:Nat)(all:MpS)(k:List Txt->List (Txt×List Tpolicy_value)->Option (List (Txt×List Tpolicy_value)×List Txt)):
  ∀(l:List Txt) (l44:List Txt) (m45:List (Txt×List Tpolicy_value)),l.Nodup->KN m45->(∀n,n∈l->mget m45 n=none)->l44.length+l.length<=10000000->
   (∀n,n∈l->∃s nums txs,mget all n=some (some s)/\Gv F s nums txs)->
   ∃by_,M35_L1 F all k l l44 m45=k (l44++l) by_/\KN by_/\(∀n,n ∉ l->mget by_ n=mget m45 n)/\
    ∀n s nums txs,n∈l->mget all n=some (some s)->Gv F s nums txs->∀x,x∈(mget by_ n).getD []<->x∈cellsL s nums txs
 |[],l44,m45,_,hk,_,_,_=>⟨m45,by rw[M35_L1];simp,hk,fun _ _=>rfl,fun n s nums txs h=>by simp at h⟩
 |n::r,l44,m45,hn,hk,hno,hl,hg=>by
  simp only[List.length_cons] at hl
  have hn':=List.nodup_cons.1 hn
  obtain⟨s,nums,txs,h1,h2⟩:=hg n (by simp)
  have hm:=hno n (by simp)
  obtain⟨q,g1,g2,g3,g4⟩:=R2_fold F n (cellsL s nums txs) ([],m45) (fun x=>by dsimp only;rw[hm];simp[mget]) (by dsimp only;rw[hm];have:=h2.lc;simp;omega) hk
  obtain⟨by_,e1,e2,e3,e4⟩:=M35_L1_ok F all k r (l44++[n]) q.2 hn'.2 g4 (fun m hm2=>by
   rw[g3 m (fun e=>hn'.1 (e ▸ hm2))];exact hno m (by simp[hm2])) (by simp;omega) (fun m hm2=>hg m (by simp[hm2]))
  refine⟨by_,?_,e2,fun m hm2=>?_,fun m s' nums' txs' hm2 hs' hG x=>?_⟩
  ·rw[M35_L1,if_pos (by simp;omega),h1]
   show(Option.bind (some s) fun x50=>_)=_
   rw[Option.bind_some]
   have:=M90_eq (fun p x=>M35_R2 F n p.1 p.2 x) F s nums txs h2.n h2.t h2.ln ([],m45)
   dsimp only at this
   rw[this,g1,Option.bind_some,e1]
   simp
  ·simp only[List.mem_cons,not_or] at hm2
   rw[e3 m hm2.2,g3 m hm2.1]
  ·rcases List.mem_cons.1 hm2 with e|hm2
   ·subst e
    rw[h1] at hs'
    cases hs'
    have a1:=h2.n.symm.trans hG.n
    have a2:=h2.t.symm.trans hG.t
    cases a1;cases a2
    rw[e3 m hn'.1,g2 x]
    dsimp only
    rw[hm]
    simp
   ·exact e4 m s' nums' txs' hm2 hs' hG x
theorem tsort_perm(l:List Txt):(tsort l).Perm l:=List.mergeSort_perm l _
theorem M35_ok(F:Nat)(all:MpS)(cs:List KV)(n0:Int)(hk:KN all)(hl:all.length<=1000)(hs:∀p,p∈all->p.1.length<=1000)(hg:∀n,n∈all.map (·.1)->∃s nums txs,mget all n=some (some s)/\Gv F s nums txs):
  ∃by_,M35 F all cs n0=some (by_,tsort (all.map (·.1)))/\∀n s nums txs,mget all n=some (some s)->Gv F s nums txs->∀x,x∈(mget by_ n).getD []<->x∈cellsL s nums txs:=by
 have hp:=tsort_perm (all.map (·.1))
 have hlen:(tsort (all.map (·.1))).length=all.length:=by rw[hp.length_eq];simp
 obtain⟨by_,e1,e2,e3,e4⟩:=M35_L1_ok F all (fun l38 m39=>some (m39,l38)) (tsort (all.map (·.1))) [] [] (hp.nodup_iff.2 hk) (by simp[KN]) (fun n _=>rfl) (by simp;omega) (fun n hn=>hg n (hp.mem_iff.1 hn))
 refine⟨by_,?_,fun n s nums txs h1 h2=>e4 n s nums txs (hp.mem_iff.2 ?_) h1 h2⟩
 ·unfold M35 sKeys
  rw[if_pos ⟨by omega,fun p hp=>by have:=hs p hp;omega⟩,Option.bind_some,jn_def,e1]
  simp
 ·exact List.mem_map_of_mem (mgetQ_mem h1)
end Go.Proofs.YtelmfadihfcgnaaGreatDoor
namespace Go.Pv
open Go
set_option linter.unusedVariables false
set_option linter.unusedSimpArgs false
structure SetOk(m:List (List UInt8×Bool)):Prop where
 srt:(m.map (·.1)).Pairwise (fun a b=>Op.bytesLess a b=true)
 all:∀p,p∈m->p.2=true
theorem SetOk.nil:SetOk []:=⟨by simp,by simp⟩
theorem mget_mem{α:Type}:∀(m:List (List UInt8×α)) (x:List UInt8),(mget m x).isSome=true<->x∈m.map (·.1)
 |[],x=>by simp[mget]
 |p::m,x=>by
  simp only[mget,List.map_cons,List.mem_cons]
  by_cases h:p.1=x
  ·simp[h]
  ·rw[if_neg h,mget_mem m x]
   exact⟨.inr,fun q=>q.elim (fun e=>absurd e.symm h) (fun h=>h)⟩
theorem mget_in{α:Type}:∀(m:List (List UInt8×α)) (x:List UInt8) (v:α),mget m x=some v->(x,v)∈m
 |[],x,v,h=>by simp[mget] at h
 |p::m,x,v,h=>by
  simp only[mget] at h
  split at h
  ·rename_i e;simp at h;subst e;subst h;exact List.mem_cons_self
  ·exact List.mem_cons_of_mem _ (mget_in m x v h)
theorem SetOk.get{m:List (List UInt8×Bool)}(h:SetOk m)(x:List UInt8):(mget m x).getD false=true<->x∈m.map (·.1):=by
 rw[<-mget_mem]
 cases hg:mget m x with
 |none=>simp
 |some v=>simp;exact h.all _ (mget_in m x v hg)
theorem cpt_mem(l:List (List UInt8))(x:List UInt8):x∈cpt l<->x∈l:=by
 unfold cpt Lib.compact Lib.compactUpTo
 rw[List.mem_map]
 constructor
 ·rintro⟨j,hj,rfl⟩
  have hlt:=List.mem_range.1 (List.mem_filter.1 hj).1
  rw[getElem!_pos l.toArray j (by simpa using hlt)]
  simp
 ·intro hx
  have key:∀j,j<l.length->∃i,i<=j/\Lib.keeps l.toArray i=true/\l.toArray[i]! = l.toArray[j]! := by
   intro j
   induction j with
   |zero=>exact fun _=>⟨0,Nat.le_refl _,by simp[Lib.keeps],rfl⟩
   |succ j ih=>
    intro hj
    by_cases he:l.toArray[j+1]! = l.toArray[j]!
    ·obtain⟨i,h1,h2,h3⟩:=ih (by omega)
     exact⟨i,by omega,h2,h3.trans he.symm⟩
    ·exact⟨j+1,Nat.le_refl _,by simp only[Lib.keeps,Nat.add_sub_cancel];exact decide_eq_true (.inr he),rfl⟩
  obtain⟨j,hj,rfl⟩:=List.getElem_of_mem hx
  obtain⟨i,h1,h2,h3⟩:=key j hj
  refine⟨i,List.mem_filter.2 ⟨List.mem_range.2 (by omega),h2⟩,?_⟩
  rw[h3,getElem!_pos l.toArray j (by simpa using hj)]
  simp
end Go.Pv
namespace Go.Proofs.YtelmfadihfcgnaaGreatDoor
open Go Go.Pv
set_option linter.unusedVariables false
set_option linter.unusedSimpArgs false
set_option maxRecDepth 1000000
theorem cpt_memI(l:List Int)(x:Int):x∈cpt l<->x∈l:=by
 unfold cpt Lib.compact Lib.compactUpTo
 rw[List.mem_map]
 constructor
 ·rintro⟨j,hj,rfl⟩
  have hlt:=List.mem_range.1 (List.mem_filter.1 hj).1
  rw[getElem!_pos l.toArray j (by simpa using hlt)]
  simp
 ·intro hx
  have key:∀j,j<l.length->∃i,i<=j/\Lib.keeps l.toArray i=true/\l.toArray[i]! = l.toArray[j]! := by
   intro j
   induction j with
   |zero=>exact fun _=>⟨0,Nat.le_refl _,by simp[Lib.keeps],rfl⟩
   |succ j ih=>
    intro hj
    by_cases he:l.toArray[j+1]! = l.toArray[j]!
    ·obtain⟨i,h1,h2,h3⟩:=ih (by omega)
     exact⟨i,by omega,h2,h3.trans he.symm⟩
    ·exact⟨j+1,Nat.le_refl _,by simp only[Lib.keeps,Nat.add_sub_cancel];exact decide_eq_true (.inr he),rfl⟩
  obtain⟨j,hj,rfl⟩:=List.getElem_of_mem hx
  obtain⟨i,h1,h2,h3⟩:=key j hj
  refine⟨i,List.mem_filter.2 ⟨List.mem_range.2 (by omega),h2⟩,?_⟩
  rw[h3,getElem!_pos l.toArray j (by simpa using hj)]
  simp
instance (x:Int):Decidable (okN x):=by unfold okN;infer_instance
theorem M106_ok(F:Nat)(a:Int):M106 F a=some (decide (okN a)):=by
 unfold M106
 by_cases h:a ≥ -1000000000000
 ·rw[if_pos (decide_eq_true h)]
  congr 1
  exact decide_eq_decide.2 ⟨fun h2=>⟨h,h2⟩,fun h2=>h2.2⟩
 ·rw[if_neg (by simpa using h),decide_eq_false (fun h2=>h h2.1)]
theorem cnt_step(F:Nat)(a:Int)(l:List Int)(K:List Int->Option (List Int))(h:l.length<=10000000):
  ((M106 F a).bind fun y22=>jn (fun(l25:List Int)=>K l25) (fun k24=>if y22=true then if (l++([a]:List Int)).length*8<=140737488355328 then k24 (l++([a]:List Int)) else none else k24 l))=K (l++[a].filter fun x=>decide (okN x)):=by
 rw[M106_ok,Option.bind_some,jn_def]
 by_cases h2:okN a
 ·rw[if_pos (decide_eq_true h2),if_pos (by simp;omega)]
  simp[h2]
 ·rw[if_neg (by simpa using h2)]
  simp[h2]
def near(n:Int):List Int:=[n - 1,n,n+1].filter fun x=>decide (okN x)
theorem M131_L2_eq(F:Nat)(n:Int)(hn:okN n)(k:List Int->Option (List Int))(l:List Int)(hl:l.length<=1000000):M131_L2 F n k 3 0 l=k (l++near n):=by
 unfold okN at hn
 have e1:w64 (n - 1)=n - 1:=w64_id (by omega) (by omega)
 have e2:w64 (n+1)=n+1:=w64_id (by omega) (by omega)
 have f1:∀(x:Int) (l:List Int),([x].filter fun x=>decide (okN x)).length<=1:=fun x l=>List.length_filter_le _ _
 rw[M131_L2,show idx ([w64 (n - 1),n,w64 (n+1)]:List Int) 0=some (w64 (n - 1)) from rfl,Option.bind_some,cnt_step F _ l _ (by omega)]
 rw[M131_L2,show idx ([w64 (n - 1),n,w64 (n+1)]:List Int) (0+1)=some n from rfl,Option.bind_some,cnt_step F _ _ _ (by have:=f1 (w64 (n - 1)) l;simp only[List.length_append];omega)]
 rw[M131_L2,show idx ([w64 (n - 1),n,w64 (n+1)]:List Int) (0+1+1)=some (w64 (n+1)) from rfl,Option.bind_some,cnt_step F _ _ _ (by have:=f1 (w64 (n - 1)) l;have:=f1 n l;simp only[List.length_append];omega)]
 rw[M131_L2,e1,e2,List.append_assoc,List.append_assoc,<-List.filter_append,<-List.filter_append]
 rfl
theorem M131_L1_eq(F:Nat)(k:List Int->Option (List Int)):∀(ns:List Int) (l:List Int),(∀n,n∈ns->okN n)->l.length+3*ns.length<=1000000->M131_L1 F k ns l=k (l++ns.flatMap near)
 |[],l,_,_=>by rw[M131_L1];simp
 |n::r,l,h,hl=>by
  simp only[List.length_cons] at hl
  have hlen:(near n).length<=3:=List.length_filter_le _ _
  rw[M131_L1,jn_def,jn_def,if_pos (by omega)]
  show M131_L2 F n _ 3 0 l=_
  rw[M131_L2_eq F n (h n (by simp)) _ l (by omega)]
  show M131_L1 F k r (l++near n)=_
  rw[M131_L1_eq F k r _ (fun m hm=>h m (by simp[hm])) (by simp;omega)]
  simp
theorem M131_ok(F:Nat)(s:Tpolicy_subject)(h:∀n,n∈s.numbers->okN n)(hl:s.numbers.length<=300000):
  ∃out,M131 F s=some out/\out.length<=900001/\∀x,x∈out<->x=0\/∃n,n∈s.numbers/\x∈near n:=by
 have hlen:∀ns:List Int,(ns.flatMap near).length<=3*ns.length:=by
  intro ns
  induction ns with
  |nil=>simp
  |cons n r ih=>
   have:(near n).length<=3:=List.length_filter_le _ _
   simp only[List.flatMap_cons,List.length_append,List.length_cons];omega
 have h1:=hlen s.numbers
 obtain⟨w,hw⟩:∃w,w=[0]++s.numbers.flatMap near:=⟨_,rfl⟩
 have hwl:w.length<=900001:=by rw[hw,List.length_append,List.length_singleton];omega
 have hs:(isort w).length=w.length:=List.length_mergeSort _
 have hc:=cpt_len (isort w)
 refine⟨cpt (isort w),?_,by omega,fun x=>?_⟩
 ·unfold M131
  rw[jn_def,M131_L1_eq F _ _ _ h (by simp;omega),<-hw]
  unfold M59 M186
  rw[if_pos (by omega),Option.bind_some,if_pos hs,if_pos (by omega),Option.bind_some]
 ·rw[cpt_memI,show x∈isort w<->x∈w from (List.mergeSort_perm _ _).mem_iff,hw]
  simp
theorem beg_iff{s w:Txt}:beg s w=true<->w <+: s:=by
 unfold beg
 rw[Bool.and_eq_true,decide_eq_true_eq,beq_iff_eq]
 constructor
 ·rintro⟨h1,h2⟩;rw[<-h2];exact List.take_prefix _ _
 ·intro h;exact⟨h.length_le,(List.prefix_iff_eq_take.1 h).symm⟩
def bgn(n:Nat)(bg:List Txt)(y:Txt):Bool:=bg.any fun b=>decide (n<b.length)&&beg y b
theorem bgn_false{n:Nat}{bg:List Txt}{y:Txt}:bgn n bg y=false<->∀b,b∈bg->n<b.length->¬b <+: y:=by
 unfold bgn
 rw[List.any_eq_false]
 constructor
 ·intro h b hb hl hp
  exact h b hb (by rw[decide_eq_true hl,beg_iff.2 hp];rfl)
 ·intro h b hb hx
  rw[Bool.and_eq_true,decide_eq_true_eq,beg_iff] at hx
  exact h b hb hx.1 hx.2
theorem M223_eq(F:Nat)(s:Txt)(bg:List Txt)(n:Nat):M223 F s bg (n:Int)=some (bgn n bg s):=by
 unfold M223 M237 M247
 have h:=idxL (g:=M247_L1 F (n:Int) s (some (-1))) (fun b=>decide (n<b.length)&&beg s b) (fun _=>rfl) (fun x l m=>by
  rw[M247_L1,M238]
  by_cases h:n<x.length
  ·rw[if_pos (decide_eq_true (by omega)),M138_eq,Option.bind_some,Option.bind_some,decide_eq_true h];rfl
  ·rw[if_neg (by simp;omega),Option.bind_some,decide_eq_false h];rfl) bg 0
 rw[show((0:Nat):Int)=0 from rfl] at h
 rw[jn_def,h]
 rw[anyGe (n:=0+bg.findIdx fun b=>decide (n<b.length)&&beg s b)]
 rfl
theorem enc_chr:∀c:Fin 127,32<=c.val->(Utf8.encode (IntKind.wrap .i32 (c.val:Int))).data.toList=[UInt8.ofNat c.val]:=by decide
theorem wrap_chr:∀c:Fin 127,IntKind.wrap .u8 ((c.val:Int)+1)=(c.val:Int)+1:=by decide
theorem chr_val:∀c:Fin 127,(UInt8.ofNat c.val).toNat=c.val:=by decide
def kidsF(n:Nat)(bg:List Txt)(x:Txt)(c:Nat):List Txt:=((List.range' c (127 - c)).map fun i=>x++[UInt8.ofNat i]).filter fun y=>!bgn n bg y
theorem kidsF_step{n:Nat}{bg:List Txt}{x:Txt}{c:Nat}(h:c<=126):kidsF n bg x c=(if bgn n bg (x++[UInt8.ofNat c])=true then [] else [x++[UInt8.ofNat c]])++kidsF n bg x (c+1):=by
 unfold kidsF
 rw[show 127 - c=(127 - (c+1))+1 by omega,List.range'_succ,List.map_cons,List.filter_cons]
 cases bgn n bg (x++[UInt8.ofNat c])<;>rfl
theorem M187_L2_eq(F:Nat)(a1:Txt)(a2 a3:List Txt)(x:Txt)(k:List Txt->Option (Txt×Bool))(hx:x.length<=1000):∀(d c:Nat),c+d=127->32<=c->∀fuel,d<fuel->∀l:List Txt,l.length+d<=10000000->
  M187_L2 F a1 a2 a3 x k fuel (c:Int) l=match (kidsF a1.length a2 x c).find? (fun y=>!(a3.any fun w=>y==w)) with
   |some y=>some (y,true)
   |none=>k (l++kidsF a1.length a2 x c)
 |0,c,hc,h32,fuel,hf,l,hl=>by
  obtain⟨fuel,rfl⟩:∃g,fuel=g+1:=⟨fuel - 1,by omega⟩
  have:kidsF a1.length a2 x c=[]:=by
   unfold kidsF;rw[show 127 - c=0 by omega];rfl
  rw[M187_L2,if_neg (by simp;omega),this]
  simp
 |d+1,c,hc,h32,fuel,hf,l,hl=>by
  obtain⟨fuel,rfl⟩:∃g,fuel=g+1:=⟨fuel - 1,by omega⟩
  have h1:=enc_chr ⟨c,by omega⟩ h32
  have h2:=wrap_chr ⟨c,by omega⟩
  dsimp only at h1 h2
  rw[M187_L2,if_pos (decide_eq_true (by omega)),jn_def,h1,h2,if_pos (by simp;omega),M223_eq,Option.bind_some,kidsF_step (by omega)]
  have ih:=M187_L2_eq F a1 a2 a3 x k hx d (c+1) (by omega) (by omega) fuel (by omega)
  rw[show((c+1:Nat):Int)=(c:Int)+1 by omega] at ih
  cases hb:bgn a1.length a2 (x++[UInt8.ofNat c]) with
  |true=>
   simp only[if_true]
   rw[ih l (by omega)]
   simp
  |false=>
   simp only[Bool.false_eq_true,if_false]
   rw[M74_eq,Option.bind_some]
   cases hm:a3.any fun w=>(x++[UInt8.ofNat c])==w with
   |false=>
    simp only[Bool.not_false,if_true]
    rw[List.singleton_append,List.find?_cons,hm]
    rfl
   |true=>
    simp only[Bool.not_true,Bool.false_eq_true,if_false]
    rw[if_pos (by simp;omega),ih _ (by simp;omega),List.singleton_append,List.find?_cons,hm,List.append_assoc]
    rfl
theorem kids_mem{n:Nat}{bg:List Txt}{x y:Txt}:y∈kidsF n bg x 32<->(∃c:UInt8,32<=c.toNat/\c.toNat<=126/\y=x++[c])/\bgn n bg y=false:=by
 unfold kidsF
 rw[List.mem_filter,List.mem_map]
 constructor
 ·rintro⟨⟨i,hi,rfl⟩,h⟩
  rw[List.mem_range'_1] at hi
  have:=chr_val ⟨i,by omega⟩
  dsimp only at this
  exact⟨⟨UInt8.ofNat i,by omega,by omega,rfl⟩,by simpa using h⟩
 ·rintro⟨⟨c,h1,h2,rfl⟩,h⟩
  refine⟨⟨c.toNat,?_,?_⟩,by rw[h];rfl⟩
  ·rw[List.mem_range'_1];omega
  ·simp
theorem kids_nodup(n:Nat)(bg:List Txt)(x:Txt):(kidsF n bg x 32).Nodup:=by
 unfold kidsF
 refine List.Nodup.sublist List.filter_sublist ?_
 rw[List.nodup_iff_pairwise_ne,List.pairwise_map]
 refine(List.nodup_iff_pairwise_ne.1 List.nodup_range').imp_of_mem fun {a b} ha hb h e=>h ?_
 rw[List.mem_range'_1] at ha hb
 have h1:=chr_val ⟨a,by omega⟩
 have h2:=chr_val ⟨b,by omega⟩
 dsimp only at h1 h2
 have:=List.append_cancel_left e
 simp only[List.cons.injEq,and_true] at this
 rw[<-h1,<-h2,this]
theorem nodup_sub{α:Type}[DecidableEq α]:∀{l m:List α},l.Nodup->(∀x,x∈l->x∈m)->l.length<=m.length
 |[],m,_,_=>Nat.zero_le _
 |x::l,m,hn,hs=>by
  have hn':=List.nodup_cons.1 hn
  have:=nodup_sub (l:=l) (m:=m.erase x) hn'.2 fun y hy=>(List.mem_erase_of_ne (show y≠x from fun e=>hn'.1 (e ▸ hy))).2 (hs y (by simp[hy]))
  rw[List.length_erase_of_mem (hs x (by simp))] at this
  have hp:=List.length_pos_of_mem (hs x (by simp))
  simp only[List.length_cons];omega
structure Qu(a1:Txt)(a2 a3:List Txt)(l:List Txt)(n:Nat):Prop where
 nd:l.Nodup
 hd:l[0]? = some a1
 ok:∀q,q∈l->a1 <+: q/\okT q/\bgn a1.length a2 q=false
 par:∀j q,l[j]? = some q->0<j->q∈a3/\∃i p c,i<n/\l[i]? = some p/\q=p++[c]
 cl:∀j q,j<n->l[j]? = some q->q∈a3/\(q.length<1000->∀y,y∈kidsF a1.length a2 q 32->y∈l)
theorem Qu.len{a1:Txt}{a2 a3 l:List Txt}{n:Nat}(h:Qu a1 a2 a3 l n):l.length<=a3.length+1:=by
 match l,h.hd,h with
 |x::r,_,h=>
  have:=nodup_sub (List.nodup_cons.1 h.nd).2 fun y hy=>by
   obtain⟨j,hj⟩:=List.getElem?_of_mem hy
   exact(h.par (j+1) y (by simpa using hj) (by omega)).1
  simpa using this
theorem any_mem{l:List Txt}{x:Txt}:(l.any fun w=>x==w)=true<->x∈l:=by
 rw[List.any_eq_true]
 constructor
 ·rintro⟨w,h,e⟩;rw[beq_iff_eq] at e;rw[e];exact h
 ·intro h;exact⟨x,h,by simp⟩
theorem M187_L1_ok(F:Nat)(a1:Txt)(a2 a3:List Txt)(k4:Option (Txt×Bool))(hF:200<=F)(ha:a3.length<=1000000):∀(fuel n:Nat) (l:List Txt),Qu a1 a2 a3 l n->n<=l.length->a3.length+2<=n+fuel->
  (∃t,M187_L1 F a1 a2 a3 k4 fuel (n:Int) l=some (t,true)/\FreeOf a3 a2 a1 t)\/(M187_L1 F a1 a2 a3 k4 fuel (n:Int) l=k4/\∃l',Qu a1 a2 a3 l' l'.length)
 |0,n,l,h,hn,hf=>by have:=h.len;omega
 |fuel+1,n,l,h,hn,hf=>by
  have hll:=h.len
  rw[M187_L1]
  by_cases hnl:n<l.length
  ·rw[if_pos (decide_eq_true (by omega)),jn_def,idx_nat hnl,Option.bind_some,M74_eq,Option.bind_some]
   have hx:l[n]? = some l[n]:=List.getElem?_eq_getElem hnl
   obtain⟨x,hxe⟩:∃x,x=l[n]:=⟨_,rfl⟩
   rw[<-hxe] at hx ⊢
   have hxm:=List.mem_of_getElem? hx
   obtain⟨o1,o2,o3⟩:=h.ok x hxm
   cases hm:a3.any fun w=>x==w with
   |false=>
    simp only[Bool.not_false,if_true]
    refine .inl ⟨x,rfl,o1,o2,fun hx3=>?_,bgn_false.1 o3⟩
    rw[any_mem.2 hx3] at hm;cases hm
   |true=>
    have hx3:=any_mem.1 hm
    simp only[Bool.not_true,Bool.false_eq_true,if_false]
    have hw:w64 ((n:Int)+1)=((n+1:Nat):Int):=by rw[w64_id (by omega) (by omega)];rfl
    by_cases h1000:x.length=1000
    ·rw[if_pos (by simp[h1000])]
     rw[hw]
     refine M187_L1_ok F a1 a2 a3 k4 hF ha fuel (n+1) l ⟨h.nd,h.hd,h.ok,fun j q hj h0=>?_,fun j q hj hq=>?_⟩ hnl (by omega)
     ·obtain⟨g1,i,p,c,g2,g3⟩:=h.par j q hj h0
      exact⟨g1,i,p,c,by omega,g3⟩
     ·by_cases e:j=n
      ·subst e
       rw[hx] at hq;cases hq
       exact⟨hx3,fun hl=>by omega⟩
      ·exact h.cl j q (by omega) hq
    ·rw[if_neg (by simp;omega),jn_def]
     have hxl:x.length<=1000:=o2.1
     have hin:=M187_L2_eq F a1 a2 a3 x (fun l19=>(fun l11=>M187_L1 F a1 a2 a3 k4 fuel (w64 ((n:Int)+1)) l11) l19) hxl 95 32 rfl (by omega) F (by omega) l (by omega)
     rw[show((32:Nat):Int)=32 from rfl] at hin
     rw[hin]
     have hok:∀y,y∈kidsF a1.length a2 x 32->a1 <+: y/\okT y/\bgn a1.length a2 y=false:=by
      intro y hy
      obtain⟨⟨c,c1,c2,rfl⟩,hb⟩:=kids_mem.1 hy
      refine⟨o1.trans (List.prefix_append _ _),⟨by simp;omega,fun d hd=>?_⟩,hb⟩
      rcases List.mem_append.1 hd with hd|hd
      ·exact o2.2 d hd
      ·simp only[List.mem_singleton] at hd;subst hd;exact⟨c1,c2⟩
     cases hfd:(kidsF a1.length a2 x 32).find? (fun y=>!(a3.any fun w=>y==w)) with
     |some y=>
      have hy:=List.mem_of_find?_eq_some hfd
      have hp:=List.find?_some hfd
      obtain⟨p1,p2,p3⟩:=hok y hy
      refine .inl ⟨y,rfl,p1,p2,fun h3=>?_,bgn_false.1 p3⟩
      rw[any_mem.2 h3] at hp;cases hp
     |none=>
      dsimp only
      rw[hw]
      have hall:∀y,y∈kidsF a1.length a2 x 32->y∈a3:=fun y hy=>by
       have:=List.find?_eq_none.1 hfd y hy
       exact any_mem.1 (by simpa using this)
      refine M187_L1_ok F a1 a2 a3 k4 hF ha fuel (n+1) (l++kidsF a1.length a2 x 32) ⟨?_,?_,fun q hq=>?_,fun j q hj h0=>?_,fun j q hj hq=>?_⟩ (by simp;omega) (by omega)
      ·rw[List.nodup_append]
       refine⟨h.nd,kids_nodup _ _ _,fun a hal b hbk e=>?_⟩
       subst e
       obtain⟨⟨c,c1,c2,rfl⟩,hb⟩:=kids_mem.1 hbk
       obtain⟨j,hj⟩:=List.getElem?_of_mem hal
       by_cases h0:j=0
       ·subst h0
        rw[h.hd] at hj
        have:=congrArg List.length (Option.some.inj hj)
        have:=o1.length_le
        simp at *;omega
       ·obtain⟨_,i,p,d,g2,g3,g4⟩:=h.par j _ hj (by omega)
        have e2:=List.append_inj' g4 rfl
        rw[<-e2.1] at g3
        have hi:i<l.length:=(List.getElem?_eq_some_iff.1 g3).1
        have:=(List.getElem?_inj hi h.nd).1 (g3.trans hx.symm)
        omega
      ·rw[List.getElem?_append_left (by have:=(List.getElem?_eq_some_iff.1 h.hd).1;omega)];exact h.hd
      ·rcases List.mem_append.1 hq with hq|hq
       ·exact h.ok q hq
       ·exact hok q hq
      ·by_cases hjl:j<l.length
       ·rw[List.getElem?_append_left hjl] at hj
        obtain⟨g1,i,p,c,g2,g3,g4⟩:=h.par j q hj h0
        exact⟨g1,i,p,c,by omega,by rw[List.getElem?_append_left (by have:=(List.getElem?_eq_some_iff.1 g3).1;omega)];exact g3,g4⟩
       ·rw[List.getElem?_append_right (by omega)] at hj
        have hq:=List.mem_of_getElem? hj
        obtain⟨⟨c,c1,c2,rfl⟩,hb⟩:=kids_mem.1 hq
        exact⟨hall _ hq,n,x,c,by omega,by rw[List.getElem?_append_left hnl];exact hx,rfl⟩
      ·by_cases e:j=n
       ·subst e
        rw[List.getElem?_append_left hnl,hx] at hq;cases hq
        exact⟨hx3,fun _ y hy=>List.mem_append_right _ hy⟩
       ·rw[List.getElem?_append_left (by omega)] at hq
        obtain⟨g1,g2⟩:=h.cl j q (by omega) hq
        exact⟨g1,fun hl y hy=>List.mem_append_left _ (g2 hl y hy)⟩
  ·rw[if_neg (by simp;omega)]
   have:n=l.length:=by omega
   subst this
   exact .inr ⟨rfl,l,h⟩
theorem Qu.none{a1:Txt}{a2 a3 l:List Txt}(h:Qu a1 a2 a3 l l.length)(t:Txt):¬FreeOf a3 a2 a1 t:=by
 intro hf
 have key:∀k,a1.length+k<=t.length->t.take (a1.length+k)∈l:=by
  intro k
  induction k with
  |zero=>
   intro _
   rw[Nat.add_zero,<-List.prefix_iff_eq_take.1 hf.pre]
   exact List.mem_of_getElem? h.hd
  |succ k ih=>
   intro hk
   have hp:=ih (by omega)
   obtain⟨j,hj⟩:=List.getElem?_of_mem hp
   have hlt:a1.length+k<t.length:=by omega
   obtain⟨_,g⟩:=h.cl j _ (List.getElem?_eq_some_iff.1 hj).1 hj
   have hlen:(t.take (a1.length+k)).length<1000:=by have:=hf.ok.1;simp;omega
   refine g hlen _ (kids_mem.2 ⟨⟨t[a1.length+k],?_,?_,?_⟩,bgn_false.2 fun b hb hl hp=>?_⟩)
   ·exact(hf.ok.2 _ (List.getElem_mem hlt)).1
   ·exact(hf.ok.2 _ (List.getElem_mem hlt)).2
   ·rw[show a1.length+(k+1)=(a1.length+k)+1 by omega,List.take_succ_eq_append_getElem hlt]
   ·exact hf.no b hb hl (hp.trans (List.take_prefix _ _))
 have hle:=hf.pre.length_le
 have:=key (t.length - a1.length) (by omega)
 rw[show a1.length+(t.length - a1.length)=t.length by omega,List.take_length] at this
 obtain⟨j,hj⟩:=List.getElem?_of_mem this
 exact hf.not (h.cl j t (List.getElem?_eq_some_iff.1 hj).1 hj).1
theorem M187_ok(F:Nat)(a1:Txt)(a2 a3:List Txt)(hF:a3.length+200<=F)(ha:a3.length<=1000000)(h1:okT a1):
  (∃t,M187 F a1 a2 a3=some (t,true)/\FreeOf a3 a2 a1 t)\/(M187 F a1 a2 a3=some ([],false)/\∀t,¬FreeOf a3 a2 a1 t):=by
 have hq:Qu a1 a2 a3 [a1] 0:=by
  refine⟨by simp,rfl,fun q hq=>?_,fun j q hj h0=>?_,fun j q hj _=>by omega⟩
  ·simp only[List.mem_singleton] at hq
   subst hq
   exact⟨List.prefix_refl _,h1,bgn_false.2 fun b _ hl hp=>by have:=hp.length_le;omega⟩
  ·cases j with
   |zero=>omega
   |succ j=>simp at hj
 rcases M187_L1_ok F a1 a2 a3 (some (([]:List UInt8),false)) (by omega) ha F 0 [a1] hq (by simp) (by omega) with ⟨t,e,h⟩|⟨e,l',h⟩
 ·exact .inl ⟨t,e,h⟩
 ·exact .inr ⟨e,fun t=>h.none t⟩
theorem M29_eq(F:Nat)(l:List Txt)(h:l.length<=10000000):M29 F l=some l:=by
 unfold M29
 refine nilq_same ?_ fun h0=>?_
 ·rw[if_neg (by decide),if_pos (by simp;omega)];simp
 ·have:l=[]:=List.length_eq_zero_iff.1 h0
  subst this;rfl
theorem M132_L1_ok(F:Nat)(s:Tpolicy_subject)(hF:s.is.length+200<=F)(ha:s.is.length<=1000000)(k:List Txt->Option (List Txt)):∀(l l15:List Txt),(∀p,p∈l->okT p)->l15.length+l.length<=10000000->
  ∃fs,M132_L1 F s k l l15=k (l15++fs)/\fs.length<=l.length/\(∀p,p∈l->(∃t,FreeOf s.is s.begins p t/\t∈fs)\/∀t,¬FreeOf s.is s.begins p t)/\∀x,x∈fs->∃p,FreeOf s.is s.begins p x
 |[],l15,_,_=>⟨[],by rw[M132_L1];simp,Nat.le_refl _,by simp,by simp⟩
 |p::l,l15,h,hl=>by
  simp only[List.length_cons] at hl
  rw[M132_L1]
  rcases M187_ok F p s.begins s.is hF ha (h p (by simp)) with ⟨t,e,hf⟩|⟨e,hf⟩
  ·obtain⟨fs,g1,g2,g3,g4⟩:=M132_L1_ok F s hF ha k l (l15++[t]) (fun q hq=>h q (by simp[hq])) (by simp;omega)
   refine⟨t::fs,?_,by simp;omega,fun q hq=>?_,fun x hx=>?_⟩
   ·rw[e,Option.bind_some,jn_def]
    dsimp only
    rw[if_pos rfl,if_pos (by simp;omega),g1]
    simp
   ·rcases List.mem_cons.1 hq with e2|hq
    ·subst e2;exact .inl ⟨t,hf,by simp⟩
    ·rcases g3 q hq with ⟨u,h1,h2⟩|h1
     ·exact .inl ⟨u,h1,by simp[h2]⟩
     ·exact .inr h1
   ·rcases List.mem_cons.1 hx with e2|hx
    ·subst e2;exact⟨p,hf⟩
    ·exact g4 x hx
  ·obtain⟨fs,g1,g2,g3,g4⟩:=M132_L1_ok F s hF ha k l l15 (fun q hq=>h q (by simp[hq])) (by omega)
   refine⟨fs,?_,by simp;omega,fun q hq=>?_,g4⟩
   ·rw[e,Option.bind_some,jn_def]
    dsimp only
    rw[if_neg (by decide),g1]
   ·rcases List.mem_cons.1 hq with e2|hq
    ·subst e2;exact .inr hf
    ·exact g3 q hq
structure Reps(is bg out:List Txt):Prop where
 hi:∀e,e∈is->e∈out
 hb:∀p,(p∈bg\/p=[])->(∃t,FreeOf is bg p t/\t∈out)\/∀t,¬FreeOf is bg p t
 ok:∀x,x∈out->x∈is\/okT x
theorem M132_ok(F:Nat)(s:Tpolicy_subject)(hF:s.is.length+200<=F)(ha:s.is.length<=1000000)(hb:s.begins.length<=1000000)(h:∀b,b∈s.begins->okT b):
  ∃out,M132 F s=some out/\out.length<=s.is.length+s.begins.length+1/\Reps s.is s.begins out:=by
 have h0:okT []:=⟨by simp,by simp⟩
 have main:∀l:List Txt,(∀p,p∈l<->p∈s.begins\/p=[])->l.length<=s.begins.length+1->
   ∃out,(M132_L1 F s (fun l11=>(M109 F l11).bind fun y26=>if y26.length=l11.length then (M188 F y26).bind fun y29=>some y29 else none) l s.is)=some out/\out.length<=s.is.length+s.begins.length+1/\Reps s.is s.begins out:=by
  intro l hm hll
  obtain⟨fs,g1,g2,g3,g4⟩:=M132_L1_ok F s hF ha (fun l11=>(M109 F l11).bind fun y26=>if y26.length=l11.length then (M188 F y26).bind fun y29=>some y29 else none) l s.is (fun p hp=>((hm p).1 hp).elim (h p) (fun e=>e ▸ h0)) (by omega)
  have hs:(tsort (s.is++fs)).length=(s.is++fs).length:=(tsort_perm _).length_eq
  have hc:=cpt_len (tsort (s.is++fs))
  have hmem:∀x,x∈cpt (tsort (s.is++fs))<->x∈s.is\/x∈fs:=fun x=>by rw[cpt_mem,(tsort_perm _).mem_iff,List.mem_append]
  rw[List.length_append] at hs
  refine⟨cpt (tsort (s.is++fs)),?_,by omega,fun e he=>(hmem e).2 (.inl he),fun p hp=>?_,fun x hx=>?_⟩
  ·rw[g1]
   unfold M109 M188
   rw[if_pos (by rw[List.length_append];omega),Option.bind_some,if_pos (by rw[List.length_append];exact hs),if_pos (by omega),Option.bind_some]
  ·rcases g3 p ((hm p).2 hp) with ⟨t,h1,h2⟩|h1
   ·exact .inl ⟨t,h1,(hmem t).2 (.inr h2)⟩
   ·exact .inr h1
  ·rcases(hmem x).1 hx with hx|hx
   ·exact .inl hx
   ·obtain⟨p,hp⟩:=g4 x hx
    exact .inr hp.ok
 unfold M132
 rw[M29_eq F _ (by omega),Option.bind_some,M74_eq,Option.bind_some,jn_def]
 cases hm:s.begins.any fun w=>([]:List UInt8)==w with
 |false=>
  simp only[Bool.not_false,if_true]
  rw[if_pos (by simp;omega),jn_def]
  refine main _ (fun p=>?_) (by simp<;>omega)
  simp only[List.singleton_append,List.mem_cons]
  exact Or.comm
 |true=>
  simp only[Bool.not_true,Bool.false_eq_true,if_false]
  rw[jn_def]
  refine main _ (fun p=>⟨.inl,fun hp=>hp.elim id fun e=>?_⟩) (by omega)
  rw[e];exact any_mem.1 hm
def lfOf(s:Tpolicy_subject)(l:Lf):Prop:=
 (l.k=2/\(∀e,e∈l.tx->e∈s.is)/\s.asText=true)\/(l.k=3/\(∀e,e∈l.tx->e∈s.begins)/\s.asText=true)\/(l.k=4/\s.has=true)\/(l.k=5/\l.n∈s.numbers/\s.asNo=true)
structure SameV(s:Tpolicy_subject)(u v:Fd):Prop where
 tx:s.asText=true->u.isText=v.isText/\(u.isText=true->SameT s.is s.begins u.text v.text)
 nx:s.asNo=true->u.isNumber=v.isNumber/\(u.isNumber=true->SameN s.numbers u.number v.number)
 hx:s.has=true->(u.isText||u.isNumber)=(v.isText||v.isNumber)
theorem bool_eq{a b:Bool}(h:a=true<->b=true):a=b:=by
 cases a<;>cases b<;>simp_all
theorem cmpO_same{ns:List Int}{x y n op:Int}(h:SameN ns x y)(hn:n∈ns):cmpO x op n=cmpO y op n:=by
 have h1:=h.lt n hn
 have h2:=h.eq n hn
 unfold cmpO
 split
 ·exact decide_eq_decide.2 h1
 ·split
  ·exact decide_eq_decide.2 (by omega)
  ·split
   ·exact bool_eq (by rw[beq_iff_eq,beq_iff_eq];exact h2)
   ·split
    ·exact decide_eq_decide.2 (by omega)
    ·exact decide_eq_decide.2 (by omega)
theorem one_same{s:Tpolicy_subject}{u v:Fd}{l:Lf}(hl:lfOf s l)(h:SameV s u v):l.one u=l.one v:=by
 unfold Lf.one oneB
 rcases hl with ⟨hk,h1,h2⟩|⟨hk,h1,h2⟩|⟨hk,h2⟩|⟨hk,h1,h2⟩
 ·obtain⟨a,b⟩:=h.tx h2
  rw[hk]
  simp only[show ¬(2:Int)=4 by decide,show ¬(2:Int)=5 by decide,if_false]
  rw[<-a]
  cases hu:u.isText with
  |false=>rfl
  |true=>
   have hs:=b hu
   show txT 2 u.text l.tx=txT 2 v.text l.tx
   rw[txT2,txT2]
   refine bool_eq ?_
   rw[any_mem,any_mem]
   constructor
   ·intro hm;rwa [<-(hs.eq _ (h1 _ hm)).1 rfl] at hm
   ·intro hm;rwa [<-(hs.eq _ (h1 _ hm)).2 rfl] at hm
 ·obtain⟨a,b⟩:=h.tx h2
  rw[hk]
  simp only[show ¬(3:Int)=4 by decide,show ¬(3:Int)=5 by decide,if_false]
  rw[<-a]
  cases hu:u.isText with
  |false=>rfl
  |true=>
   have hs:=b hu
   show txT 3 u.text l.tx=txT 3 v.text l.tx
   rw[txT3,txT3]
   refine bool_eq ?_
   rw[List.any_eq_true,List.any_eq_true]
   constructor
   ·rintro⟨w,hw,hp⟩;exact⟨w,hw,beg_iff.2 ((hs.pre w (h1 w hw)).1 (beg_iff.1 hp))⟩
   ·rintro⟨w,hw,hp⟩;exact⟨w,hw,beg_iff.2 ((hs.pre w (h1 w hw)).2 (beg_iff.1 hp))⟩
 ·rw[hk]
  simp only[if_pos]
  exact h.hx h2
 ·obtain⟨a,b⟩:=h.nx h2
  rw[hk]
  simp only[show ¬(5:Int)=4 by decide,if_false,if_true]
  rw[<-a]
  cases hu:u.isNumber with
  |false=>rfl
  |true=>exact congrArg (true&&·) (cmpO_same (b hu) h1)
def okV(v:Fd):Prop:=(v.isText=true->okT v.text)/\(v.isNumber=true->okN v.number)
theorem cells_rep{s:Tpolicy_subject}{nums:List Int}{txs:List Txt}(hn:∀x,x∈nums<->x=0\/∃n,n∈s.numbers/\x∈near n)(hns:∀n,n∈s.numbers->okN n)(ht:Reps s.is s.begins txs)(hi:s.asText=false->s.is=[]/\s.begins=[])(v:Fd)(hv:okV v):
  ∃c,c∈cellsL s nums txs/\SameV s (toF c) v:=by
 -- a number that stands for the value's
 have hnum:∃y,y∈nums/\(v.isNumber=true->SameN s.numbers y v.number):=by
  cases hvn:v.isNumber with
  |false=>exact⟨0,(hn 0).2 (.inl rfl),by simp⟩
  |true=>
   have near_mem:∀n x,okN x->(x=n - 1\/x=n\/x=n+1)->x∈near n:=fun n x hx h=>by
    unfold near
    rw[List.mem_filter]
    exact⟨by simp;exact h,by simpa using hx⟩
   obtain⟨y,h1,h2⟩:=rep_num (ns:=s.numbers) (out:=nums) ⟨0,(hn 0).2 (.inl rfl)⟩ (fun n h=>(hn n).2 (.inr ⟨n,h,near_mem n n (hns n h) (.inr (.inl rfl))⟩)) (fun n h h2=>(hn _).2 (.inr ⟨n,h,near_mem n _ h2 (.inl rfl)⟩))
    (fun m h _ h2=>(hn _).2 (.inr ⟨m,h,near_mem m _ h2 (.inr (.inr rfl))⟩)) hns v.number (hv.2 hvn)
   exact⟨y,h1,fun _=>h2⟩
 obtain⟨y,hy,hyS⟩:=hnum
 have htx:v.isText=true->∃t,t∈txs/\SameT s.is s.begins t v.text:=fun h=>rep_text ht.hi ht.hb v.text (hv.1 h)
 -- the number's part
 have hnv:∃z,z∈numsL s nums/\z.hasText=false/\(s.asNo=true->z.hasNumber=v.isNumber/\(z.hasNumber=true->SameN s.numbers z.number v.number))/\(s.has=true->z.hasNumber=v.isNumber):=by
  unfold numsL
  by_cases ha:(s.asNo||s.has)=true
  ·rw[if_pos ha]
   cases hvn:v.isNumber with
   |false=>exact⟨zV,by simp,rfl,fun _=>⟨rfl,by simp[zV]⟩,fun _=>rfl⟩
   |true=>exact⟨nv y,List.mem_cons_of_mem _ (List.mem_map_of_mem hy),rfl,fun _=>⟨rfl,fun _=>hyS hvn⟩,fun _=>rfl⟩
  ·rw[if_neg ha]
   rw[Bool.or_eq_true,not_or] at ha
   exact⟨zV,by simp,rfl,fun h=>absurd h ha.1,fun h=>absurd h ha.2⟩
 obtain⟨z,hz,hz0,hz1,hz2⟩:=hnv
 by_cases hvt:v.isText=true/\(s.asText||s.has)=true
 ·obtain⟨t,ht1,ht2⟩:=htx hvt.1
  refine⟨tvs t z,?_,?_⟩
  ·unfold cellsL
   rw[if_pos hvt.2]
   exact List.mem_append_right _ (List.mem_flatMap.2 ⟨t,ht1,List.mem_map_of_mem hz⟩)
  ·exact⟨fun _=>⟨hvt.1.symm,fun _=>ht2⟩,fun h=>⟨(hz1 h).1,fun h2=>(hz1 h).2 h2⟩,fun h=>by rw[hvt.1];simp[toF,tvs]⟩
 ·refine⟨z,by unfold cellsL;exact List.mem_append_left _ hz,?_⟩
  refine⟨fun h=>?_,fun h=>⟨(hz1 h).1,fun h2=>(hz1 h).2 h2⟩,fun h=>?_⟩
  ·have:v.isText=false:=by
    cases hvt2:v.isText with
    |false=>rfl
    |true=>exact absurd ⟨hvt2,by rw[h];rfl⟩ hvt
   exact⟨by rw[this];exact hz0,fun h2=>by rw[show(toF z).isText=false from hz0] at h2;cases h2⟩
  ·have:v.isText=false:=by
    cases hvt2:v.isText with
    |false=>rfl
    |true=>exact absurd ⟨hvt2,by rw[h];simp⟩ hvt
   rw[this]
   show(z.hasText||z.hasNumber)=_
   rw[hz0,hz2 h]
theorem cells_ok{s:Tpolicy_subject}{nums:List Int}{txs:List Txt}(hn:∀x,x∈nums->okN x)(ht:∀x,x∈txs->okT x){c:Tpolicy_value}(hc:c∈cellsL s nums txs):okV (toF c):=by
 have hnums:∀z,z∈numsL s nums->z.hasText=false/\(z.hasNumber=true->okN z.number):=by
  intro z hz
  unfold numsL at hz
  rcases List.mem_cons.1 hz with e|hz
  ·rw[e];exact⟨rfl,by simp[zV]⟩
  ·split at hz
   ·obtain⟨n,hn2,rfl⟩:=List.mem_map.1 hz
    exact⟨rfl,fun _=>hn n hn2⟩
   ·simp at hz
 unfold cellsL at hc
 rcases List.mem_append.1 hc with hc|hc
 ·obtain⟨h1,h2⟩:=hnums c hc
  exact⟨fun h=>absurd (h1.symm.trans h) (by simp),h2⟩
 ·split at hc
  ·obtain⟨t,ht2,hc⟩:=List.mem_flatMap.1 hc
   obtain⟨z,hz,rfl⟩:=List.mem_map.1 hc
   exact⟨fun _=>ht t ht2,fun h=>(hnums z hz).2 h⟩
  ·simp at hc
set_option maxRecDepth 100000
structure LfOk(l:Lf):Prop where
 k:2<=l.k/\l.k<=5
 nm:nameB l.nm=true
 len:l.tx.length<=50
 tx:∀s,s∈l.tx->okT s
 n:l.k=5->okN l.n
 op:l.k=5->1<=l.op/\l.op<=5
 tx45:l.k=4\/l.k=5->l.tx=[]
theorem valB_ok{s:Txt}(h:valB s=true):okT s:=by
 unfold valB at h
 rw[Bool.and_eq_true,decide_eq_true_eq,List.all_eq_true] at h
 refine⟨h.1,fun c hc=>?_⟩
 have:=h.2 c hc
 unfold valC at this
 rw[Bool.and_eq_true,decide_eq_true_eq,decide_eq_true_eq] at this
 exact this
theorem txC_ok(a:List Txt):∀(l:List Txt) (n:Nat),txC a l n=0->∀s,s∈l->valB s=true
 |[],n,_,s,hs=>by simp at hs
 |x::l,n,h,s,hs=>by
  rw[txC] at h
  cases hv:valB x with
  |false=>rw[hv] at h;simp at h
  |true=>
   rw[hv] at h
   simp only[Bool.not_true,Bool.false_eq_true,if_false] at h
   split at h
   ·cases h
   ·rcases List.mem_cons.1 hs with e|hs
    ·rw[e];exact hv
    ·exact txC_ok a l (n+1) h s hs
theorem txF_ok{a:List Txt}(h:txF a=0):a.length<=50/\∀s,s∈a->okT s:=by
 unfold txF at h
 split at h
 ·cases h
 ·split at h
  ·cases h
  ·exact⟨by omega,fun s hs=>valB_ok (txC_ok a a 0 h s hs)⟩
theorem node_leaf{k op n:Int}{nm:Txt}{tx:List Txt}{ks:List KRow}(h:nodeV ⟨k,nm,tx,op,n,ks⟩=0)(hk:2<=k/\k<=5):LfOk ⟨k,nm,tx,op,n⟩/\ks=[]:=by
 unfold nodeV at h
 dsimp only at h
 rw[if_neg (by omega),if_neg (show ¬k=6 by omega),if_neg (show ¬7<=k by omega)] at h
 split at h
 ·cases h
 ·rename_i h1
  rw[Bool.or_eq_true,Bool.or_eq_true,Bool.or_eq_true,not_or,not_or,not_or] at h1
  obtain⟨⟨⟨_,h2⟩,h3⟩,h4⟩:=h1
  split at h
  ·cases h
  ·rename_i h5
   have hnm:nameB nm=true:=by
    cases hb:nameB nm with
    |true=>rfl
    |false=>rw[hb,decide_eq_true hk.1,decide_eq_true hk.2] at h5;simp at h5
   have hks:ks=[]:=by
    have:(ks.length==0)=true:=by simpa using h4
    exact List.length_eq_zero_iff.1 (by simpa using this)
   have htx:¬(k=2\/k=3)->tx=[]:=by
    intro hn
    have e1:(k==2)=false:=beq_false_of_ne (by omega)
    have e2:(k==3)=false:=beq_false_of_ne (by omega)
    rw[e1,e2] at h2
    simp only[Bool.or_self,Bool.not_false,Bool.true_and,decide_eq_true_eq] at h2
    exact List.length_eq_zero_iff.1 (by omega)
   split at h
   ·rename_i h6
    obtain⟨g1,g2⟩:=txF_ok h
    exact⟨⟨hk,hnm,g1,g2,fun h=>by simp only at h;omega,fun h=>by simp only at h;omega,fun h=>by simp only at h;omega⟩,hks⟩
   ·rename_i h6
    have:=htx h6
    subst this
    split at h
    ·rename_i h7
     split at h
     ·cases h
     ·rename_i h8
      split at h
      ·cases h
      ·rename_i h9
       unfold outN at h9
       rw[Bool.or_eq_true,decide_eq_true_eq,decide_eq_true_eq] at h9
       exact⟨⟨hk,hnm,by simp,by simp,fun _=>⟨by simp only;omega,by simp only;omega⟩,fun _=>⟨by simp only;omega,by simp only;omega⟩,fun _=>rfl⟩,hks⟩
    ·rename_i h7
     exact⟨⟨hk,hnm,by simp,by simp,fun h=>absurd h h7,fun h=>absurd h h7,fun _=>rfl⟩,hks⟩
theorem lvs_ok:∀t:Tr,t.flt=0->∀l,l∈t.lvs->LfOk l:=Tr.ind fun k nm tx op n ks ih hz l hl=>by
 obtain⟨hnode,hfl⟩:=flt_zero hz
 have hkk:=node_kind hnode
 dsimp only at hkk
 rw[Tr.lvs] at hl
 split at hl
 ·simp at hl
 ·split at hl
  ·obtain⟨t,ht,h⟩:=lvss_mem.1 hl
   exact ih t ht (flts_mem hfl ht) l h
  ·simp only[List.mem_singleton] at hl
   rw[hl]
   exact(node_leaf hnode (by omega)).1
theorem lvs_len:∀t:Tr,t.lvs.length<=t.cnt:=Tr.ind fun k nm tx op n ks ih=>by
 rw[Tr.lvs,Tr.cnt]
 have:∀l:List Tr,(∀t,t∈l->t∈ks)->(Tr.lvss l).length<=Tr.cnts l:=by
  intro l
  induction l with
  |nil=>intro _;simp[Tr.lvss,Tr.cnts]
  |cons t r ihr=>
   intro hm
   rw[Tr.lvss,Tr.cnts,List.length_append]
   have h1:=ih t (hm t (by simp))
   have h2:=ihr fun u hu=>hm u (by simp[hu])
   omega
 have h:=this ks fun _ h=>h
 split
 ·simp
 ·split
  ·omega
  ·simp
theorem mkK_t{τ:Type}{T:Nat}{enc:τ->List V}{y:τ}:(mkK T enc y).t=T:=rfl
def sub0:Tpolicy_subject:=⟨[],[],[],false,false,false,2⟩
def subj(all:MpS)(n:Txt):Tpolicy_subject:=match mget all n with
 |some (some s)=>s
 |_=>sub0
def updS(l:Lf)(s:Tpolicy_subject):Tpolicy_subject:=
 if l.k=2 then ⟨s.is++l.tx,s.begins,s.numbers,true,s.asNo,s.has,w64 (s.weight+((l.tx.length:Nat):Int))⟩
 else if l.k=3 then ⟨s.is,s.begins++l.tx,s.numbers,true,s.asNo,s.has,w64 (s.weight+w64 (2*((l.tx.length:Nat):Int)))⟩
 else if l.k=4 then ⟨s.is,s.begins,s.numbers,s.asText,s.asNo,true,s.weight⟩
 else ⟨s.is,s.begins,s.numbers++[l.n],s.asText,true,s.has,w64 (s.weight+2)⟩
def addL(all:MpS)(l:Lf):MpS:=mput all l.nm (some (updS l (subj all l.nm)))
theorem mput_mput{κ τ:Type}[DecidableEq κ](m:List (κ×τ))(k:κ)(v w:τ):mput (mput m k v) k w=mput m k w:=by
 induction m with
 |nil=>simp[mput]
 |cons p r ih=>
  rw[mput]
  by_cases e:p.1=k
  ·rw[if_pos e,mput,if_pos rfl,mput,if_pos e]
  ·rw[if_neg e,mput,if_neg e,ih,mput,if_neg e]
structure Bd(all:MpS)(B:Nat):Prop where
 so:∀n,mget all n≠some none
 li:∀n,(subj all n).is.length<=B/\(subj all n).begins.length<=B/\(subj all n).numbers.length<=B
theorem subj_add(all:MpS)(l:Lf)(n:Txt):subj (addL all l) n=if l.nm=n then updS l (subj all l.nm) else subj all n:=by
 unfold addL
 by_cases e:l.nm=n
 ·rw[if_pos e]
  show(match mget (mput all l.nm _) n with|some (some s)=>s|_=>sub0)=_
  rw[mget_mput,if_pos e]
 ·rw[if_neg e]
  show(match mget (mput all l.nm _) n with|some (some s)=>s|_=>sub0)=_
  rw[mget_mput,if_neg e];rfl
theorem Bd.add{all:MpS}{B:Nat}(h:Bd all B){l:Lf}(hl:l.tx.length<=50):Bd (addL all l) (B+50):=by
 refine⟨fun n=>?_,fun n=>?_⟩
 ·unfold addL
  rw[mget_mput]
  split
  ·simp
  ·exact h.so n
 ·rw[subj_add]
  have h1:=h.li n
  have h2:=h.li l.nm
  split
  ·unfold updS
   split
   ·simp only[List.length_append];omega
   ·split
    ·simp only[List.length_append];omega
    ·split
     ·simp only;omega
     ·simp only[List.length_append,List.length_singleton];omega
  ·omega
theorem M89_eq(F:Nat)(all:MpS)(n:Txt)(h:mget all n≠some none):∃xs,M89 F n all=some (xs,subj all n)/\∀v,mput xs n v=mput all n v:=by
 unfold M89 subj
 cases hm:mget all n with
 |none=>exact⟨_,rfl,fun v=>mput_mput _ _ _ _⟩
 |some q=>
  cases q with
  |none=>exact absurd hm h
  |some s=>exact⟨_,rfl,fun _=>rfl⟩
theorem fold_bd:∀(ls:List Lf) (all:MpS) (B:Nat),Bd all B->(∀l,l∈ls->LfOk l)->Bd (ls.foldl addL all) (B+50*ls.length)
 |[],all,B,h,_=>by simpa using h
 |l::r,all,B,h,hl=>by
  have:=fold_bd r (addL all l) (B+50) (h.add (hl l (by simp)).len) fun m hm=>hl m (by simp[hm])
  rw[List.foldl_cons]
  refine⟨this.so,fun n=>?_⟩
  have h1:=this.li n
  simp only[List.length_cons]
  omega
theorem M33_ok:∀t:Tr,t.ok->t.flt=0->∀F,t.fu<=F->∀(all:MpS) (B:Nat),Bd all B->B+50*t.lvs.length<=1000000->M33 F t.cd all=some (t.lvs.foldl addL all):=Tr.ind fun k nm tx op n ks ih ok hz F hF all B hB hb=>by
 rw[Tr.fu] at hF
 have hlo:=lvs_ok _ hz
 obtain⟨hnode,hfl⟩:=flt_zero hz
 obtain⟨F,rfl⟩:∃G,F=G+1:=⟨F - 1,by omega⟩
 show M33_B (M33 F) F (Tr.mk k nm tx op n ks).cd all=_
 have hkk:=node_kind hnode
 dsimp only at hkk
 have hk':k=1\/k=2\/k=3\/k=4\/k=5\/k=6\/k=7\/k=8:=by omega
 rw[Tr.lvs] at hb hlo ⊢
 rw[Tr.cd]
 have hl1:∀(l:List Tr) (all:MpS) (B:Nat),Bd all B->(∀t,t∈l->t∈ks)->B+50*(Tr.lvss l).length<=1000000->M33_L1 (M33 F) F (fun m=>some m) (Tr.cds l) all=some ((Tr.lvss l).foldl addL all):=by
  intro l
  induction l with
  |nil=>intro all B _ _ _;rw[Tr.cds,Tr.lvss];rfl
  |cons t r ihr=>
   intro all B hB hm hb
   rw[Tr.lvss,List.length_append] at hb
   have ht:=hm t (by simp)
   rw[Tr.cds,M33_L1,ih t ht (Tr.oks_mem (Tr.okks ok).1 ht) (flts_mem hfl ht) F (by have:=Tr.fu_mem ht;omega) all B hB (by omega),Option.bind_some,Tr.lvss,List.foldl_append]
   exact ihr _ _ (fold_bd t.lvs all B hB fun l hl=>lvs_ok t (flts_mem hfl ht) l hl) (fun u hu=>hm u (by simp[hu])) (by omega)
 have hl2:∀(l:List Tr) (all:MpS) (B:Nat),Bd all B->(∀t,t∈l->t∈ks)->B+50*(Tr.lvss l).length<=1000000->M33_L1 (M33 F) F (fun m=>some m) (Tr.cds l) all=some ((Tr.lvss l).foldl addL all):=by
  intro l
  induction l with
  |nil=>intro all B _ _ _;rw[Tr.cds,Tr.lvss];rfl
  |cons t r ihr=>
   intro all B hB hm hb
   rw[Tr.lvss,List.length_append] at hb
   have ht:=hm t (by simp)
   rw[Tr.cds,M33_L1,ih t ht (Tr.oks_mem (Tr.okks ok).1 ht) (flts_mem hfl ht) F (by have:=Tr.fu_mem ht;omega) all B hB (by omega),Option.bind_some,Tr.lvss,List.foldl_append]
   exact ihr _ _ (fold_bd t.lvs all B hB fun l hl=>lvs_ok t (flts_mem hfl ht) l hl) (fun u hu=>hm u (by simp[hu])) (by omega)
 rcases hk' with e|e|e|e|e|e|e|e
 ·subst e
  simp only[show ¬(1:Int)=2 by decide,show ¬(1:Int)=3 by decide,show ¬(1:Int)=4 by decide,show ¬(1:Int)=5 by decide,show ¬(1:Int)=6 by decide,show ¬(1:Int)=7 by decide,show ¬(1:Int)=8 by decide,if_false,if_true] at hb hlo ⊢
  unfold M33_B
  simp only[mkK_t]
  refine(if_neg (show ¬Nat.beq 159 147=true by decide)).trans ?_
  refine(if_neg (show ¬Nat.beq 159 148=true by decide)).trans ?_
  refine(if_neg (show ¬Nat.beq 159 150=true by decide)).trans ?_
  refine(if_neg (show ¬Nat.beq 159 152=true by decide)).trans ?_
  refine(if_neg (show ¬Nat.beq 159 154=true by decide)).trans ?_
  refine(if_neg (show ¬Nat.beq 159 156=true by decide)).trans ?_
  refine(if_neg (show ¬Nat.beq 159 157=true by decide)).trans ?_
  rfl
 ·subst e
  simp only[show ¬(2:Int)=1 by decide,show ¬(2:Int)=3 by decide,show ¬(2:Int)=4 by decide,show ¬(2:Int)=5 by decide,show ¬(2:Int)=6 by decide,show ¬(2:Int)=7 by decide,show ¬(2:Int)=8 by decide,show ¬((2:Int)=6\/(2:Int)=7\/(2:Int)=8) by decide,if_false,if_true,List.length_singleton] at hb hlo ⊢
  unfold M33_B
  simp only[mkK_t]
  refine(if_pos (show Nat.beq 147 147=true from rfl)).trans ?_
  obtain⟨xs,e1,e2⟩:=M89_eq F all nm (hB.so nm)
  have h1:=hB.li nm
  have h2:=(hlo ⟨2,nm,tx,op,n⟩ (by simp)).len
  simp only at h2
  rw[vdec_mk inj_Is,Option.bind_some,e1,Option.bind_some,if_pos (by simp only[List.length_append,List.length_singleton];omega)]
  dsimp only
  rw[e2]
  rfl
 ·subst e
  simp only[show ¬(3:Int)=1 by decide,show ¬(3:Int)=2 by decide,show ¬(3:Int)=4 by decide,show ¬(3:Int)=5 by decide,show ¬(3:Int)=6 by decide,show ¬(3:Int)=7 by decide,show ¬(3:Int)=8 by decide,show ¬((3:Int)=6\/(3:Int)=7\/(3:Int)=8) by decide,if_false,if_true,List.length_singleton] at hb hlo ⊢
  unfold M33_B
  simp only[mkK_t]
  refine(if_neg (show ¬Nat.beq 148 147=true by decide)).trans ?_
  refine(if_pos (show Nat.beq 148 148=true from rfl)).trans ?_
  obtain⟨xs,e1,e2⟩:=M89_eq F all nm (hB.so nm)
  have h1:=hB.li nm
  have h2:=(hlo ⟨3,nm,tx,op,n⟩ (by simp)).len
  simp only at h2
  rw[vdec_mk inj_Begins,Option.bind_some,e1,Option.bind_some,if_pos (by simp only[List.length_append,List.length_singleton];omega)]
  dsimp only
  rw[e2]
  rfl
 ·subst e
  simp only[show ¬(4:Int)=1 by decide,show ¬(4:Int)=2 by decide,show ¬(4:Int)=3 by decide,show ¬(4:Int)=5 by decide,show ¬(4:Int)=6 by decide,show ¬(4:Int)=7 by decide,show ¬(4:Int)=8 by decide,show ¬((4:Int)=6\/(4:Int)=7\/(4:Int)=8) by decide,if_false,if_true,List.length_singleton] at hb hlo ⊢
  unfold M33_B
  simp only[mkK_t]
  refine(if_neg (show ¬Nat.beq 150 147=true by decide)).trans ?_
  refine(if_neg (show ¬Nat.beq 150 148=true by decide)).trans ?_
  refine(if_pos (show Nat.beq 150 150=true from rfl)).trans ?_
  obtain⟨xs,e1,e2⟩:=M89_eq F all nm (hB.so nm)
  rw[vdec_mk inj_Has,Option.bind_some,e1,Option.bind_some]
  dsimp only
  rw[e2]
  rfl
 ·subst e
  simp only[show ¬(5:Int)=1 by decide,show ¬(5:Int)=2 by decide,show ¬(5:Int)=3 by decide,show ¬(5:Int)=4 by decide,show ¬(5:Int)=6 by decide,show ¬(5:Int)=7 by decide,show ¬(5:Int)=8 by decide,show ¬((5:Int)=6\/(5:Int)=7\/(5:Int)=8) by decide,if_false,if_true,List.length_singleton] at hb hlo ⊢
  unfold M33_B
  simp only[mkK_t]
  refine(if_neg (show ¬Nat.beq 152 147=true by decide)).trans ?_
  refine(if_neg (show ¬Nat.beq 152 148=true by decide)).trans ?_
  refine(if_neg (show ¬Nat.beq 152 150=true by decide)).trans ?_
  refine(if_pos (show Nat.beq 152 152=true from rfl)).trans ?_
  obtain⟨xs,e1,e2⟩:=M89_eq F all nm (hB.so nm)
  have h1:=hB.li nm
  have h2:=(hlo ⟨5,nm,tx,op,n⟩ (by simp)).len
  simp only at h2
  rw[vdec_mk inj_Number,Option.bind_some,e1,Option.bind_some,if_pos (by simp only[List.length_append,List.length_singleton];omega)]
  dsimp only
  rw[e2]
  rfl
 ·subst e
  simp only[show ¬(6:Int)=1 by decide,show ¬(6:Int)=2 by decide,show ¬(6:Int)=3 by decide,show ¬(6:Int)=4 by decide,show ¬(6:Int)=5 by decide,show ¬(6:Int)=7 by decide,show ¬(6:Int)=8 by decide,if_false,if_true,or_true,true_or,or_false,false_or] at hb hlo ⊢
  unfold M33_B
  simp only[mkK_t]
  refine(if_neg (show ¬Nat.beq 154 147=true by decide)).trans ?_
  refine(if_neg (show ¬Nat.beq 154 148=true by decide)).trans ?_
  refine(if_neg (show ¬Nat.beq 154 150=true by decide)).trans ?_
  refine(if_neg (show ¬Nat.beq 154 152=true by decide)).trans ?_
  refine(if_pos (show Nat.beq 154 154=true from rfl)).trans ?_
  have h1:ks.length=1:=by rw[<-node_not hnode rfl];exact(Tr.toKs_len ks).symm
  match ks,h1,ih,ok,hb,hfl,hF with
  |[t],_,ih,ok,hb,hfl,hF=>
   rw[vdec_mk inj_Not,Option.bind_some]
   simp only[Tr.lvss,List.append_nil] at hb ⊢
   show(M33 F ((Tr.cds [t]).headD _) all).bind _=_
   rw[Tr.cds,List.headD_cons,ih t (by simp) (Tr.oks_mem (Tr.okks ok).1 (by simp)) (flts_mem hfl (by simp)) F (by have:=Tr.fu_mem (ks:=[t]) (t:=t) (by simp);omega) all B hB hb,Option.bind_some]
 ·subst e
  simp only[show ¬(7:Int)=1 by decide,show ¬(7:Int)=2 by decide,show ¬(7:Int)=3 by decide,show ¬(7:Int)=4 by decide,show ¬(7:Int)=5 by decide,show ¬(7:Int)=6 by decide,show ¬(7:Int)=8 by decide,if_false,if_true,or_true,true_or,or_false,false_or] at hb hlo ⊢
  unfold M33_B
  simp only[mkK_t]
  refine(if_neg (show ¬Nat.beq 156 147=true by decide)).trans ?_
  refine(if_neg (show ¬Nat.beq 156 148=true by decide)).trans ?_
  refine(if_neg (show ¬Nat.beq 156 150=true by decide)).trans ?_
  refine(if_neg (show ¬Nat.beq 156 152=true by decide)).trans ?_
  refine(if_neg (show ¬Nat.beq 156 154=true by decide)).trans ?_
  refine(if_pos (show Nat.beq 156 156=true from rfl)).trans ?_
  rw[vdec_mk inj_All,Option.bind_some,jn_def]
  exact hl1 ks all B hB (fun _ h=>h) hb
 ·subst e
  simp only[show ¬(8:Int)=1 by decide,show ¬(8:Int)=2 by decide,show ¬(8:Int)=3 by decide,show ¬(8:Int)=4 by decide,show ¬(8:Int)=5 by decide,show ¬(8:Int)=6 by decide,show ¬(8:Int)=7 by decide,if_false,if_true,or_true,true_or,or_false,false_or] at hb hlo ⊢
  unfold M33_B
  simp only[mkK_t]
  refine(if_neg (show ¬Nat.beq 157 147=true by decide)).trans ?_
  refine(if_neg (show ¬Nat.beq 157 148=true by decide)).trans ?_
  refine(if_neg (show ¬Nat.beq 157 150=true by decide)).trans ?_
  refine(if_neg (show ¬Nat.beq 157 152=true by decide)).trans ?_
  refine(if_neg (show ¬Nat.beq 157 154=true by decide)).trans ?_
  refine(if_neg (show ¬Nat.beq 157 156=true by decide)).trans ?_
  refine(if_pos (show Nat.beq 157 157=true from rfl)).trans ?_
  rw[vdec_mk inj_Any,Option.bind_some,jn_def]
  exact hl2 ks all B hB (fun _ h=>h) hb
def lw(l:Lf):Nat:=if l.k=2 then l.tx.length else if l.k=3 then 2*l.tx.length else if l.k=4 then 0 else 2
def wsm(ls:List Lf)(n:Txt):Nat:=(ls.map fun l=>if l.nm=n then lw l else 0).sum
theorem wsm_app(d:List Lf)(l:Lf)(n:Txt):wsm (d++[l]) n=wsm d n+(if l.nm=n then lw l else 0):=by
 unfold wsm;simp
theorem lw_le{l:Lf}(h:LfOk l):lw l<=100:=by
 have:=h.len
 unfold lw
 repeat' split
 all_goals omega
theorem wsm_le{ls:List Lf}(h:∀l,l∈ls->LfOk l)(n:Txt):wsm ls n<=100*ls.length:=by
 unfold wsm
 induction ls with
 |nil=>simp
 |cons l r ih=>
  have h1:=ih fun m hm=>h m (by simp[hm])
  have h2:=lw_le (h l (by simp))
  simp only[List.map_cons,List.sum_cons,List.length_cons]
  split<;>omega
structure SOk(s:Tpolicy_subject)(w:Nat):Prop where
 is:∀e,e∈s.is->okT e
 bg:∀e,e∈s.begins->okT e
 ns:∀n,n∈s.numbers->okN n
 tx:s.asText=false->s.is=[]/\s.begins=[]
 wt:s.weight=2+(w:Int)
 sz:s.is.length+2*s.begins.length+2*s.numbers.length=w
structure Ga(all:MpS)(d:List Lf):Prop where
 kn:KN all
 ke:∀n,n∈all.map (·.1)<->∃l,l∈d/\l.nm=n
 sm:∀n,n∈all.map (·.1)->mget all n=some (some (subj all n))
 lf:∀l,l∈d->lfOf (subj all l.nm) l
 ok:∀n,SOk (subj all n) (wsm d n)
 ln:all.length<=d.length
theorem len_mput{κ τ:Type}[DecidableEq κ](m:List (κ×τ))(k:κ)(v:τ):(mput m k v).length<=m.length+1:=by
 induction m with
 |nil=>simp[mput]
 |cons p r ih=>
  rw[mput]
  split
  ·simp
  ·simp only[List.length_cons];omega
theorem lfOf_mono{s:Tpolicy_subject}{l m:Lf}(h:lfOf s m):lfOf (updS l s) m:=by
 unfold updS
 rcases h with ⟨a,b,c⟩|⟨a,b,c⟩|⟨a,b⟩|⟨a,b,c⟩
 ·refine .inl ⟨a,?_⟩
  repeat' split
  all_goals first|exact⟨fun e he=>List.mem_append_left _ (b e he),rfl⟩|exact⟨b,rfl⟩|exact⟨b,c⟩
 ·refine .inr (.inl ⟨a,?_⟩)
  repeat' split
  all_goals first|exact⟨fun e he=>List.mem_append_left _ (b e he),rfl⟩|exact⟨b,rfl⟩|exact⟨b,c⟩
 ·refine .inr (.inr (.inl ⟨a,?_⟩))
  repeat' split
  all_goals first|exact b|rfl
 ·refine .inr (.inr (.inr ⟨a,?_⟩))
  repeat' split
  all_goals first|exact⟨List.mem_append_left _ b,rfl⟩|exact⟨b,rfl⟩|exact⟨b,c⟩
theorem lfOf_upd{s:Tpolicy_subject}{l:Lf}(h:LfOk l):lfOf (updS l s) l:=by
 have hk:=h.k
 unfold updS
 by_cases h2:l.k=2
 ·rw[if_pos h2];exact .inl ⟨h2,fun e he=>List.mem_append_right _ he,rfl⟩
 rw[if_neg h2]
 by_cases h3:l.k=3
 ·rw[if_pos h3];exact .inr (.inl ⟨h3,fun e he=>List.mem_append_right _ he,rfl⟩)
 rw[if_neg h3]
 by_cases h4:l.k=4
 ·rw[if_pos h4];exact .inr (.inr (.inl ⟨h4,rfl⟩))
 rw[if_neg h4]
 exact .inr (.inr (.inr ⟨by omega,by simp,rfl⟩))
theorem SOk.upd{s:Tpolicy_subject}{w:Nat}(h:SOk s w){l:Lf}(hl:LfOk l)(hw:w<=700000):SOk (updS l s) (w+lw l):=by
 have hk:=hl.k
 have hlen:=hl.len
 have hwt:=h.wt
 have hsz:=h.sz
 unfold updS lw
 by_cases h2:l.k=2
 ·rw[if_pos h2,if_pos h2]
  refine⟨fun e he=>(List.mem_append.1 he).elim (h.is e) (hl.tx e),h.bg,h.ns,fun h=>absurd h (by simp),?_,?_⟩
  ·dsimp only;rw[w64_id (by omega) (by omega)];omega
  ·dsimp only;rw[List.length_append];omega
 rw[if_neg h2,if_neg h2]
 by_cases h3:l.k=3
 ·rw[if_pos h3,if_pos h3]
  refine⟨h.is,fun e he=>(List.mem_append.1 he).elim (h.bg e) (hl.tx e),h.ns,fun h=>absurd h (by simp),?_,?_⟩
  ·dsimp only;rw[w64_id (n:=2*((l.tx.length:Nat):Int)) (by omega) (by omega),w64_id (by omega) (by omega)];omega
  ·dsimp only;rw[List.length_append];omega
 rw[if_neg h3,if_neg h3]
 by_cases h4:l.k=4
 ·rw[if_pos h4,if_pos h4]
  exact⟨h.is,h.bg,h.ns,h.tx,by simpa using hwt,by simpa using hsz⟩
 rw[if_neg h4,if_neg h4]
 refine⟨h.is,h.bg,fun n hn=>?_,h.tx,?_,?_⟩
 ·rcases List.mem_append.1 hn with hn|hn
  ·exact h.ns n hn
  ·simp only[List.mem_singleton] at hn
   rw[hn];exact hl.n (by omega)
 ·dsimp only;rw[w64_id (by omega) (by omega)];omega
 ·dsimp only;rw[List.length_append,List.length_singleton];omega
theorem Ga.add{all:MpS}{d:List Lf}(h:Ga all d){l:Lf}(hl:LfOk l)(hd:∀l,l∈d->LfOk l)(hlen:d.length<=6100):Ga (addL all l) (d++[l]):=by
 have hke:∀n,n∈(addL all l).map (·.1)<->n=l.nm\/n∈all.map (·.1):=fun n=>keys_mput n
 refine⟨h.kn.put,fun n=>?_,fun n hn=>?_,fun m hm=>?_,fun n=>?_,?_⟩
 ·rw[hke,h.ke]
  constructor
  ·rintro(e|⟨m,hm,e⟩)
   ·exact⟨l,by simp,e.symm⟩
   ·exact⟨m,by simp[hm],e⟩
  ·rintro⟨m,hm,e⟩
   rcases List.mem_append.1 hm with hm|hm
   ·exact .inr ⟨m,hm,e⟩
   ·simp only[List.mem_singleton] at hm
    rw[<-hm];exact .inl e.symm
 ·rw[subj_add]
  unfold addL
  rw[mget_mput]
  by_cases e:l.nm=n
  ·rw[if_pos e,if_pos e]
  ·rw[if_neg e,if_neg e]
   exact h.sm n (((hke n).1 hn).resolve_left (Ne.symm e))
 ·rw[subj_add]
  rcases List.mem_append.1 hm with hm|hm
  ·have:=h.lf m hm
   split
   ·rename_i e;rw[e];exact lfOf_mono this
   ·exact this
  ·simp only[List.mem_singleton] at hm
   rw[hm,if_pos rfl]
   exact lfOf_upd hl
 ·rw[subj_add,wsm_app]
  by_cases e:l.nm=n
  ·rw[if_pos e,if_pos e,<-e]
   exact(h.ok l.nm).upd hl (by have:=wsm_le hd l.nm;omega)
  ·rw[if_neg e,if_neg e]
   exact h.ok n
 ·have:=len_mput all l.nm (some (updS l (subj all l.nm)))
  have:=h.ln
  simp only[List.length_append,List.length_singleton]
  unfold addL
  omega
theorem Ga.fold:∀(ls d:List Lf) (all:MpS),Ga all d->(∀l,l∈ls->LfOk l)->(∀l,l∈d->LfOk l)->d.length+ls.length<=6100->Ga (ls.foldl addL all) (d++ls)
 |[],d,all,h,_,_,_=>by simpa using h
 |l::r,d,all,h,hl,hd,hlen=>by
  simp only[List.length_cons] at hlen
  have:=Ga.fold r (d++[l]) (addL all l) (h.add (hl l (by simp)) hd (by omega)) (fun m hm=>hl m (by simp[hm])) (fun m hm=>(List.mem_append.1 hm).elim (hd m) fun hm=>by
   simp only[List.mem_singleton] at hm;rw[hm];exact hl l (by simp)) (by simp;omega)
  rw[List.foldl_cons]
  simpa using this
def allL(ls:List Lf):MpS:=ls.foldl addL []
def GoodL(ls:List Lf):Prop:=(∀l,l∈ls->LfOk l)/\ls.length<=6000
end Go.Proofs.YtelmfadihfcgnaaGreatDoor
