/- Part of the proof: D6QG, D6QH, D6QI, D6QJ, D6Ord, D6QK, D6GD, D6RA. -/
import Derived.Test.YtelmfadihfcgnaaGreatDoorED6QF
import Derived.Test.YtelmfadihfcgnaaGreatDoorED6M
import Derived.Test.YtelmfadihfcgnaaGreatDoorED6PB
set_option linter.unusedSimpArgs false
set_option linter.unusedVariables false
namespace Go.Proofs.YtelmfadihfcgnaaGreatDoor
open Go Go.Pv
set_option maxRecDepth 1000000
theorem kx{s w:bb}:zi s w=true<->w <+: s:=by
 unfold zi;rw[ap9,decide_eq_true_eq,beq_iff_eq];constructor
 ·rintro⟨h1,h2⟩;rw[<-h2];exact List.take_prefix _ _
 ·intro h;exact⟨h.length_le,(List.prefix_iff_eq_take.1 h).symm⟩
def yD(n:Nat)(bg:List bb)(y:bb):Bool:=bg.any fun b=>decide (n<b.length)&&zi y b
theorem fy{n:Nat}{bg:List bb}{y:bb}:yD n bg y=false<->∀b,b∈bg->n<b.length->¬b <+: y:=by
 unfold yD;rw[List.any_eq_false];constructor
 ·intro h b hb hl hp;exact h b hb (by rw[decide_eq_true hl,kx.2 hp];rfl)
 ·intro h b hb hx;rw[ap9,decide_eq_true_eq,kx] at hx;exact h b hb hx.1 hx.2
theorem IK(F:Nat)(s:bb)(bg:List bb)(n:Nat):GN F s bg (n:Int)=some (yD n bg s):=by
 unfold GN IJ IH
 have h:=Ct (g:=kG F (n:Int) s (some (-1))) (fun b=>decide (n<b.length)&&zi s b) (fun _=>rfl) (fun x l m=>by
  rw[kG,II];by_cases h:n<x.length
  ·rw[if_pos (decide_eq_true (by omega)),BP,bv9,bv9,decide_eq_true h];rfl
  ·rw[if_neg (by simp;omega),bv9,decide_eq_false h];rfl) bg 0
 rw[show((0:Nat):Int)=0 from rfl] at h;rw[aA,h];rw[BJ (n:=0+bg.findIdx fun b=>decide (n<b.length)&&zi s b)];rfl
theorem H9:∀c:Fin 127,32<=c.val->(Utf8.encode (IntKind.wrap .i32 (c.val:Int))).data.toList=[UInt8.ofNat c.val]:=by decide
theorem xn:∀c:Fin 127,IntKind.wrap .u8 ((c.val:Int)+1)=(c.val:Int)+1:=by decide
theorem wx:∀c:Fin 127,(UInt8.ofNat c.val).toNat=c.val:=by decide
def dI(n:Nat)(bg:List bb)(x:bb)(c:Nat):List bb:=((List.range' c (127 - c)).map fun i=>x++[UInt8.ofNat i]).filter fun y=>!yD n bg y
theorem sA{n:Nat}{bg:List bb}{x:bb}{c:Nat}(h:c<=126):dI n bg x c=(if yD n bg (x++[UInt8.ofNat c])=true then [] else [x++[UInt8.ofNat c]])++dI n bg x (c+1):=by
 unfold dI;rw[show 127 - c=(127 - (c+1))+1 by omega,List.range'_succ,bi9,ab9];cases yD n bg (x++[UInt8.ofNat c])<;>rfl
theorem tz(F:Nat)(a1:bb)(a2 a3:List bb)(x:bb)(k:List bb->Option (bb×Bool))(hx:x.length<=1000):∀(d c:Nat),c+d=127->32<=c->∀fuel,d<fuel->∀l:List bb,l.length+d<=10000000->
  ja F a1 a2 a3 x k fuel (c:Int) l=match (dI a1.length a2 x c).find? (fun y=>!(a3.any fun w=>y==w)) with
   |some y=>some (y,true)
   |none=>k (l++dI a1.length a2 x c)
 |0,c,hc,h32,fuel,hf,l,hl=>by
  obtain⟨fuel,rfl⟩:∃g,fuel=g+1:=⟨fuel - 1,by omega⟩
  have:dI a1.length a2 x c=[]:=by
   unfold dI;rw[show 127 - c=0 by omega];rfl
  rw[ja,if_neg (by simp;omega),this];simp
 |d+1,c,hc,h32,fuel,hf,l,hl=>by
  obtain⟨fuel,rfl⟩:∃g,fuel=g+1:=⟨fuel - 1,by omega⟩;have h1:=H9 ⟨c,by omega⟩ h32;have h2:=xn ⟨c,by omega⟩;dsimp only at h1 h2;rw[ja,if_pos (decide_eq_true (by omega)),aA,h1,h2,if_pos (by simp;omega),IK,bv9,sA (by omega)];have ih:=tz F a1 a2 a3 x k hx d (c+1) (by omega) (by omega) fuel (by omega);rw[show((c+1:Nat):Int)=(c:Int)+1 by omega] at ih;cases hb:yD a1.length a2 (x++[UInt8.ofNat c]) with
  |true=>
   simp only[if_true];rw[ih l (by omega)];simp
  |false=>
   simp only[ch8,if_false];rw[wZ,bv9];cases hm:a3.any fun w=>(x++[UInt8.ofNat c])==w with
   |false=>
    simp only[bt9,if_true];rw[List.singleton_append,List.find?_cons,hm];rfl
   |true=>
    simp only[br9,ch8,if_false];rw[if_pos (by simp;omega),ih _ (by simp;omega),List.singleton_append,List.find?_cons,hm,bx8];rfl
theorem gB{n:Nat}{bg:List bb}{x y:bb}:y∈dI n bg x 32<->(∃c:UInt8,32<=c.toNat/\c.toNat<=126/\y=x++[c])/\yD n bg y=false:=by
 unfold dI;rw[bv8,bb8];constructor
 ·rintro⟨⟨i,hi,rfl⟩,h⟩
  rw[List.mem_range'_1] at hi;have:=wx ⟨i,by omega⟩;dsimp only at this;exact⟨⟨UInt8.ofNat i,by omega,by omega,rfl⟩,by simpa using h⟩
 ·rintro⟨⟨c,h1,h2,rfl⟩,h⟩
  refine⟨⟨c.toNat,?_,?_⟩,by rw[h];rfl⟩
  ·rw[List.mem_range'_1];omega
  ·simp
theorem sy(n:Nat)(bg:List bb)(x:bb):(dI n bg x 32).Nodup:=by
 unfold dI;refine List.Nodup.sublist List.filter_sublist ?_;rw[List.nodup_iff_pairwise_ne,List.pairwise_map];refine(List.nodup_iff_pairwise_ne.1 List.nodup_range').imp_of_mem fun {a b} ha hb h e=>h ?_;rw[List.mem_range'_1] at ha hb;have h1:=wx ⟨a,by omega⟩;have h2:=wx ⟨b,by omega⟩;dsimp only at h1 h2;have:=List.append_cancel_left e;simp only[bx9,and_true] at this;rw[<-h1,<-h2,this]
theorem Fg(n:Nat)(bg:List bb)(x:bb):(dI n bg x 32).length<=95:=by
 unfold dI;exact bs8 (ab8 _ _) (by simp)
theorem fX{α:Type}[DecidableEq α]:∀{l m:List α},l.Nodup->(∀x,x∈l->x∈m)->l.length<=m.length
 |[],m,_,_=>ai8 _
 |x::l,m,hn,hs=>by
  have hn':=aa9.1 hn;have:=fX (l:=l) (m:=m.erase x) hn'.2 fun y hy=>(List.mem_erase_of_ne (show y≠x from fun e=>hn'.1 (e ▸ hy))).2 (hs y (by simp[hy]));rw[List.length_erase_of_mem (hs x (by simp))] at this;have hp:=List.length_pos_of_mem (hs x (by simp));simp only[bt8];omega
structure Qu(a1:bb)(a2 a3:List bb)(l:List bb)(n:Nat):Prop where
 nd:l.Nodup
 hd:l[0]? = some a1
 ok:∀q,q∈l->a1 <+: q/\sf q/\yD a1.length a2 q=false
 par:∀j q,l[j]? = some q->0<j->q∈a3/\∃i p c,i<n/\l[i]? = some p/\q=p++[c]
 cl:∀j q,j<n->l[j]? = some q->q∈a3/\(q.length<1000->∀y,y∈dI a1.length a2 q 32->y∈l)
theorem Qu.len{a1:bb}{a2 a3 l:List bb}{n:Nat}(h:Qu a1 a2 a3 l n):l.length<=a3.length+1:=by
 match l,h.hd,h with
 |x::r,_,h=>
  have:=fX (aa9.1 h.nd).2 fun y hy=>by
   obtain⟨j,hj⟩:=ba8 hy;exact(h.par (j+1) y (by simpa using hj) (by omega)).1
  simpa using this
theorem kz{l:List bb}{x:bb}:(l.any fun w=>x==w)=true<->x∈l:=by
 rw[cc9];constructor
 ·rintro⟨w,h,e⟩;rw[beq_iff_eq] at e;rw[e];exact h
 ·intro h;exact⟨x,h,by simp⟩
theorem ol(F:Nat)(a1:bb)(a2 a3:List bb)(k4:Option (bb×Bool))(hF:200<=F)(ha:a3.length<=1000000):∀(fuel n:Nat) (l:List bb),Qu a1 a2 a3 l n->n<=l.length->a3.length+2<=n+fuel->
  (∃t,ic F a1 a2 a3 k4 fuel (n:Int) l=some (t,true)/\dS a3 a2 a1 t)\/(ic F a1 a2 a3 k4 fuel (n:Int) l=k4/\∃l',Qu a1 a2 a3 l' l'.length)
 |0,n,l,h,hn,hf=>by have:=h.len;omega
 |fuel+1,n,l,h,hn,hf=>by
  have hll:=h.len;rw[ic];by_cases hnl:n<l.length
  ·rw[if_pos (decide_eq_true (by omega)),aA,bt hnl,bv9,wZ,bv9];have hx:l[n]? = some l[n]:=ax8 hnl;obtain⟨x,hxe⟩:∃x,x=l[n]:=⟨_,rfl⟩;rw[<-hxe] at hx ⊢;have hxm:=aw8 hx;obtain⟨o1,o2,o3⟩:=h.ok x hxm;cases hm:a3.any fun w=>x==w with
   |false=>
    simp only[bt9,if_true];refine .inl ⟨x,Y,o1,o2,fun hx3=>?_,fy.1 o3⟩;rw[kz.2 hx3] at hm;cases hm
   |true=>
    have hx3:=kz.1 hm;simp only[br9,ch8,if_false];have hw:bh ((n:Int)+1)=((n+1:Nat):Int):=by rw[cc (by omega) (by omega)];rfl
    by_cases h1000:x.length=1000
    ·rw[if_pos (by simp[h1000])];rw[hw];refine ol F a1 a2 a3 k4 hF ha fuel (n+1) l ⟨h.nd,h.hd,h.ok,fun j q hj h0=>?_,fun j q hj hq=>?_⟩ hnl (by omega)
     ·obtain⟨g1,i,p,c,g2,g3⟩:=h.par j q hj h0;exact⟨g1,i,p,c,by omega,g3⟩
     ·by_cases e:j=n
      ·subst e;rw[hx] at hq;cases hq;exact⟨hx3,fun hl=>by omega⟩
      ·exact h.cl j q (by omega) hq
    ·rw[if_neg (by simp;omega),aA];have hxl:x.length<=1000:=o2.1;have hin:=tz F a1 a2 a3 x (fun l19=>(fun l11=>ic F a1 a2 a3 k4 fuel (bh ((n:Int)+1)) l11) l19) hxl 95 32 rfl (by omega) F (by omega) l (by omega);rw[show((32:Nat):Int)=32 from rfl] at hin;rw[hin]
     have hok:∀y,y∈dI a1.length a2 x 32->a1 <+: y/\sf y/\yD a1.length a2 y=false:=by
      intro y hy;obtain⟨⟨c,c1,c2,rfl⟩,hb⟩:=gB.1 hy;refine⟨o1.trans (List.prefix_append _ _),⟨by simp;omega,fun d hd=>?_⟩,hb⟩;rcases bw9.1 hd with hd|hd
      ·exact o2.2 d hd
      ·simp only[bj9] at hd;subst hd;exact⟨c1,c2⟩
     cases hfd:(dI a1.length a2 x 32).find? (fun y=>!(a3.any fun w=>y==w)) with
     |some y=>
      have hy:=List.mem_of_find?_eq_some hfd;have hp:=List.find?_some hfd;obtain⟨p1,p2,p3⟩:=hok y hy;refine .inl ⟨y,Y,p1,p2,fun h3=>?_,fy.1 p3⟩;rw[kz.2 h3] at hp;cases hp
     |none=>
      dsimp only;rw[hw]
      have hall:∀y,y∈dI a1.length a2 x 32->y∈a3:=fun y hy=>by
       have:=List.find?_eq_none.1 hfd y hy;exact kz.1 (by simpa using this)
      refine ol F a1 a2 a3 k4 hF ha fuel (n+1) (l++dI a1.length a2 x 32) ⟨?_,?_,fun q hq=>?_,fun j q hj h0=>?_,fun j q hj hq=>?_⟩ (by simp;omega) (by omega)
      ·rw[bw8];refine⟨h.nd,sy _ _ _,fun a hal b hbk e=>?_⟩;subst e;obtain⟨⟨c,c1,c2,rfl⟩,hb⟩:=gB.1 hbk;obtain⟨j,hj⟩:=ba8 hal;by_cases h0:j=0
       ·subst h0;rw[h.hd] at hj;have:=congrArg List.length (ah8 hj);have:=o1.length_le;simp at *;omega
       ·obtain⟨_,i,p,d,g2,g3,g4⟩:=h.par j _ hj (by omega);have e2:=List.append_inj' g4 rfl;rw[<-e2.1] at g3;have hi:i<l.length:=(bb9.1 g3).1;have:=(List.getElem?_inj hi h.nd).1 (g3.trans hx.symm);omega
      ·rw[as9 (by have:=(bb9.1 h.hd).1;omega)];exact h.hd
      ·rcases bw9.1 hq with hq|hq
       ·exact h.ok q hq
       ·exact hok q hq
      ·by_cases hjl:j<l.length
       ·rw[as9 hjl] at hj;obtain⟨g1,i,p,c,g2,g3,g4⟩:=h.par j q hj h0;exact⟨g1,i,p,c,by omega,by rw[as9 (by have:=(bb9.1 g3).1;omega)];exact g3,g4⟩
       ·rw[as8 (by omega)] at hj;have hq:=aw8 hj;obtain⟨⟨c,c1,c2,rfl⟩,hb⟩:=gB.1 hq;exact⟨hall _ hq,n,x,c,by omega,by rw[as9 hnl];exact hx,rfl⟩
      ·by_cases e:j=n
       ·subst e;rw[as9 hnl,hx] at hq;cases hq;exact⟨hx3,fun _ y hy=>List.mem_append_right _ hy⟩
       ·rw[as9 (by omega)] at hq;obtain⟨g1,g2⟩:=h.cl j q (by omega) hq;exact⟨g1,fun hl y hy=>cf8 _ (g2 hl y hy)⟩
  ·rw[if_neg (by simp;omega)];have:n=l.length:=by omega
   subst this;exact .inr ⟨Y,l,h⟩
theorem Qu.none{a1:bb}{a2 a3 l:List bb}(h:Qu a1 a2 a3 l l.length)(t:bb):¬dS a3 a2 a1 t:=by
 intro hf
 have key:∀k,a1.length+k<=t.length->t.take (a1.length+k)∈l:=by
  intro k
  induction k with
  |zero=>
   intro _;rw[bd9,<-List.prefix_iff_eq_take.1 hf.pre];exact aw8 h.hd
  |succ k ih=>
   intro hk;have hp:=ih (by omega);obtain⟨j,hj⟩:=ba8 hp;have hlt:a1.length+k<t.length:=by omega
   obtain⟨_,g⟩:=h.cl j _ (bb9.1 hj).1 hj;have hlen:(t.take (a1.length+k)).length<1000:=by have:=hf.ok.1;simp;omega
   refine g hlen _ (gB.2 ⟨⟨t[a1.length+k],?_,?_,?_⟩,fy.2 fun b hb hl hp=>?_⟩)
   ·exact(hf.ok.2 _ (ba9 hlt)).1
   ·exact(hf.ok.2 _ (ba9 hlt)).2
   ·rw[show a1.length+(k+1)=(a1.length+k)+1 by omega,List.take_succ_eq_append_getElem hlt]
   ·exact hf.no b hb hl (hp.trans (List.take_prefix _ _))
 have hle:=hf.pre.length_le;have:=key (t.length - a1.length) (by omega);rw[show a1.length+(t.length - a1.length)=t.length by omega,List.take_length] at this;obtain⟨j,hj⟩:=ba8 this;exact hf.not (h.cl j t (bb9.1 hj).1 hj).1
theorem IQ(F:Nat)(a1:bb)(a2 a3:List bb)(hF:a3.length+200<=F)(ha:a3.length<=1000000)(h1:sf a1):
  (∃t,GQ F a1 a2 a3=some (t,true)/\dS a3 a2 a1 t)\/(GQ F a1 a2 a3=some ([],false)/\∀t,¬dS a3 a2 a1 t):=by
 have hq:Qu a1 a2 a3 [a1] 0:=by
  refine⟨by simp,rfl,fun q hq=>?_,fun j q hj h0=>?_,fun j q hj _=>by omega⟩
  ·simp only[bj9] at hq;subst hq;exact⟨List.prefix_refl _,h1,fy.2 fun b _ hl hp=>by have:=hp.length_le;omega⟩
  ·cases j with
   |zero=>omega
   |succ j=>simp at hj
 rcases ol F a1 a2 a3 (some (([]:B8),false)) (by omega) ha F 0 [a1] hq (by simp) (by omega) with ⟨t,e,h⟩|⟨e,l',h⟩
 ·exact .inl ⟨t,e,h⟩
 ·exact .inr ⟨e,fun t=>h.none t⟩
theorem Mc(F:Nat)(l:List bb)(h:l.length<=10000000):Oq F l=some l:=by
 unfold Oq;refine Cd ?_ fun h0=>?_
 ·rw[if_neg (by decide),if_pos (by simp;omega)];simp
 ·have:l=[]:=ax9.1 h0;subst this;rfl
theorem ot(F:Nat)(s:ae)(hF:s.is.length+200<=F)(ha:s.is.length<=1000000)(k:List bb->Option (List bb)):∀(l l15:List bb),(∀p,p∈l->sf p)->l15.length+l.length<=10000000->
  ∃fs,ii F s k l l15=k (l15++fs)/\fs.length<=l.length/\(∀p,p∈l->(∃t,dS s.is s.begins p t/\t∈fs)\/∀t,¬dS s.is s.begins p t)/\∀x,x∈fs->∃p,dS s.is s.begins p x
 |[],l15,_,_=>⟨[],by rw[ii];simp,ae8 _,by simp,by simp⟩
 |p::l,l15,h,hl=>by
  simp only[bt8] at hl;rw[ii];rcases IQ F p s.begins s.is hF ha (h p (by simp)) with ⟨t,e,hf⟩|⟨e,hf⟩
  ·obtain⟨fs,g1,g2,g3,g4⟩:=ot F s hF ha k l (l15++[t]) (fun q hq=>h q (by simp[hq])) (by simp;omega);refine⟨t::fs,?_,by simp;omega,fun q hq=>?_,fun x hx=>?_⟩
   ·rw[e,bv9,aA];dsimp only;rw[if_pos rfl,if_pos (by simp;omega),g1];simp
   ·rcases aq8.1 hq with e2|hq
    ·subst e2;exact .inl ⟨t,hf,by simp⟩
    ·rcases g3 q hq with ⟨u,h1,h2⟩|h1
     ·exact .inl ⟨u,h1,by simp[h2]⟩
     ·exact .inr h1
   ·rcases aq8.1 hx with e2|hx
    ·subst e2;exact⟨p,hf⟩
    ·exact g4 x hx
  ·obtain⟨fs,g1,g2,g3,g4⟩:=ot F s hF ha k l l15 (fun q hq=>h q (by simp[hq])) (by omega);refine⟨fs,?_,by simp;omega,fun q hq=>?_,g4⟩
   ·rw[e,bv9,aA];dsimp only;rw[if_neg (by decide),g1]
   ·rcases aq8.1 hq with e2|hq
    ·subst e2;exact .inr hf
    ·exact g3 q hq
structure Gp(is bg out:List bb):Prop where
 hi:∀e,e∈is->e∈out
 hb:∀p,(p∈bg\/p=[])->(∃t,dS is bg p t/\t∈out)\/∀t,¬dS is bg p t
 ok:∀x,x∈out->x∈is\/sf x
theorem I9(F:Nat)(s:ae)(hF:s.is.length+200<=F)(ha:s.is.length<=1000000)(hb:s.begins.length<=1000000)(h:∀b,b∈s.begins->sf b):
  ∃out,qW F s=some out/\out.length<=s.is.length+s.begins.length+1/\Gp s.is s.begins out:=by
 have h0:sf []:=⟨by simp,by simp⟩
 have main:∀l:List bb,(∀p,p∈l<->p∈s.begins\/p=[])->l.length<=s.begins.length+1->
   ∃out,(ii F s (fun l11=>(C0 F l11).bind fun y26=>if y26.length=l11.length then (CU F y26).bind fun y29=>some y29 else none) l s.is)=some out/\out.length<=s.is.length+s.begins.length+1/\Gp s.is s.begins out:=by
  intro l hm hll;obtain⟨fs,g1,g2,g3,g4⟩:=ot F s hF ha (fun l11=>(C0 F l11).bind fun y26=>if y26.length=l11.length then (CU F y26).bind fun y29=>some y29 else none) l s.is (fun p hp=>((hm p).1 hp).elim (h p) (fun e=>e ▸ h0)) (by omega);have hs:(eQ (s.is++fs)).length=(s.is++fs).length:=(ei _).length_eq;have hc:=wu (eQ (s.is++fs));have hmem:∀x,x∈BA (eQ (s.is++fs))<->x∈s.is\/x∈fs:=fun x=>by rw[Ia,(ei _).mem_iff,bw9]
  rw[be8] at hs;refine⟨BA (eQ (s.is++fs)),?_,by omega,fun e he=>(hmem e).2 (.inl he),fun p hp=>?_,fun x hx=>?_⟩
  ·rw[g1];unfold C0 CU;rw[if_pos (by rw[be8];omega),bv9,if_pos (by rw[be8];exact hs),if_pos (by omega),bv9]
  ·rcases g3 p ((hm p).2 hp) with ⟨t,h1,h2⟩|h1
   ·exact .inl ⟨t,h1,(hmem t).2 (.inr h2)⟩
   ·exact .inr h1
  ·rcases(hmem x).1 hx with hx|hx
   ·exact .inl hx
   ·obtain⟨p,hp⟩:=g4 x hx;exact .inr hp.ok
 unfold qW;rw[Mc F _ (by omega),bv9,wZ,bv9,aA];cases hm:s.begins.any fun w=>([]:B8)==w with
 |false=>
  simp only[bt9,if_true];rw[if_pos (by simp;omega),aA];refine main _ (fun p=>?_) (by simp<;>omega);simp only[List.singleton_append,aq8];exact Or.comm
 |true=>
  simp only[br9,ch8,if_false];rw[aA];refine main _ (fun p=>⟨.inl,fun hp=>hp.elim id fun e=>?_⟩) (by omega);rw[e];exact kz.1 hm
def Cj(s:ae)(l:Lf):Prop:=
 (l.k=2/\(∀e,e∈l.tx->e∈s.is)/\s.asText=true)\/(l.k=3/\(∀e,e∈l.tx->e∈s.begins)/\s.asText=true)\/(l.k=4/\s.has=true)\/(l.k=5/\l.n∈s.numbers/\s.asNo=true)
structure va(s:ae)(u v:Fd):Prop where
 tx:s.asText=true->u.isText=v.isText/\(u.isText=true->yR s.is s.begins u.text v.text)
 nx:s.asNo=true->u.isNumber=v.isNumber/\(u.isNumber=true->th s.numbers u.number v.number)
 hx:s.has=true->(u.isText||u.isNumber)=(v.isText||v.isNumber)
theorem wA{a b:Bool}(h:a=true<->b=true):a=b:=by
 cases a<;>cases b<;>simp_all
theorem CE{ns:List Int}{x y n op:Int}(h:th ns x y)(hn:n∈ns):yB x op n=yB y op n:=by
 have h1:=h.lt n hn;have h2:=h.eq n hn;unfold yB;split
 ·exact decide_eq_decide.2 h1
 ·split
  ·exact decide_eq_decide.2 (by omega)
  ·split
   ·exact wA (by rw[beq_iff_eq,beq_iff_eq];exact h2)
   ·split
    ·exact decide_eq_decide.2 (by omega)
    ·exact decide_eq_decide.2 (by omega)
theorem xO{s:ae}{u v:Fd}{l:Lf}(hl:Cj s l)(h:va s u v):l.one u=l.one v:=by
 unfold Lf.one nM;rcases hl with ⟨hk,h1,h2⟩|⟨hk,h1,h2⟩|⟨hk,h2⟩|⟨hk,h1,h2⟩
 ·obtain⟨a,b⟩:=h.tx h2;rw[hk];simp only[show ¬(2:Int)=4 by decide,show ¬(2:Int)=5 by decide,if_false];rw[<-a];cases hu:u.isText with
  |false=>rfl
  |true=>
   have hs:=b hu
   show Dq 2 u.text l.tx=Dq 2 v.text l.tx
   rw[Kc,Kc];refine wA ?_;rw[kz,kz];constructor
   ·intro hm;rwa [<-(hs.eq _ (h1 _ hm)).1 rfl] at hm
   ·intro hm;rwa [<-(hs.eq _ (h1 _ hm)).2 rfl] at hm
 ·obtain⟨a,b⟩:=h.tx h2;rw[hk];simp only[show ¬(3:Int)=4 by decide,show ¬(3:Int)=5 by decide,if_false];rw[<-a];cases hu:u.isText with
  |false=>rfl
  |true=>
   have hs:=b hu
   show Dq 3 u.text l.tx=Dq 3 v.text l.tx
   rw[Kb,Kb];refine wA ?_;rw[cc9,cc9];constructor
   ·rintro⟨w,hw,hp⟩;exact⟨w,hw,kx.2 ((hs.pre w (h1 w hw)).1 (kx.1 hp))⟩
   ·rintro⟨w,hw,hp⟩;exact⟨w,hw,kx.2 ((hs.pre w (h1 w hw)).2 (kx.1 hp))⟩
 ·rw[hk];simp only[if_pos];exact h.hx h2
 ·obtain⟨a,b⟩:=h.nx h2;rw[hk];simp only[show ¬(5:Int)=4 by decide,if_false,if_true];rw[<-a];cases hu:u.isNumber with
  |false=>rfl
  |true=>exact congrArg (true&&·) (CE (b hu) h1)
def A0(v:Fd):Prop:=(v.isText=true->sf v.text)/\(v.isNumber=true->ka v.number)
theorem CF{s:ae}{nums:List Int}{txs:List bb}(hn:∀x,x∈nums<->x=0\/∃n,n∈s.numbers/\x∈qx n)(hns:∀n,n∈s.numbers->ka n)(ht:Gp s.is s.begins txs)(hi:s.asText=false->s.is=[]/\s.begins=[])(v:Fd)(hv:A0 v):
  ∃c,c∈eL s nums txs/\va s (xB c) v:=by
 -- a number that stands for the value's
 have hnum:∃y,y∈nums/\(v.isNumber=true->th s.numbers y v.number):=by
  cases hvn:v.isNumber with
  |false=>exact⟨0,(hn 0).2 (.inl rfl),by simp⟩
  |true=>
   have near_mem:∀n x,ka x->(x=n - 1\/x=n\/x=n+1)->x∈qx n:=fun n x hx h=>by
    unfold qx;rw[bv8];exact⟨by simp;exact h,by simpa using hx⟩
   obtain⟨y,h1,h2⟩:=AV (ns:=s.numbers) (out:=nums) ⟨0,(hn 0).2 (.inl rfl)⟩ (fun n h=>(hn n).2 (.inr ⟨n,h,near_mem n n (hns n h) (.inr (.inl rfl))⟩)) (fun n h h2=>(hn _).2 (.inr ⟨n,h,near_mem n _ h2 (.inl rfl)⟩))
    (fun m h _ h2=>(hn _).2 (.inr ⟨m,h,near_mem m _ h2 (.inr (.inr rfl))⟩)) hns v.number (hv.2 hvn)
   exact⟨y,h1,fun _=>h2⟩
 obtain⟨y,hy,hyS⟩:=hnum;have htx:v.isText=true->∃t,t∈txs/\yR s.is s.begins t v.text:=fun h=>xK ht.hi ht.hb v.text (hv.1 h)
 -- the number's part
 have hnv:∃z,z∈nj s nums/\z.hasText=false/\(s.asNo=true->z.hasNumber=v.isNumber/\(z.hasNumber=true->th s.numbers z.number v.number))/\(s.has=true->z.hasNumber=v.isNumber):=by
  unfold nj;by_cases ha:(s.asNo||s.has)=true
  ·rw[if_pos ha];cases hvn:v.isNumber with
   |false=>exact⟨zV,by simp,rfl,fun _=>⟨rfl,by simp[zV]⟩,fun _=>rfl⟩
   |true=>exact⟨nv y,bu8 _ (bk8 hy),rfl,fun _=>⟨rfl,fun _=>hyS hvn⟩,fun _=>rfl⟩
  ·rw[if_neg ha];rw[aq9,not_or] at ha;exact⟨zV,by simp,rfl,fun h=>absurd h ha.1,fun h=>absurd h ha.2⟩
 obtain⟨z,hz,hz0,hz1,hz2⟩:=hnv;by_cases hvt:v.isText=true/\(s.asText||s.has)=true
 ·obtain⟨t,ht1,ht2⟩:=htx hvt.1;refine⟨Hn t z,?_,?_⟩
  ·unfold eL;rw[if_pos hvt.2];exact List.mem_append_right _ (ad9.2 ⟨t,ht1,bk8 hz⟩)
  ·exact⟨fun _=>⟨hvt.1.symm,fun _=>ht2⟩,fun h=>⟨(hz1 h).1,fun h2=>(hz1 h).2 h2⟩,fun h=>by rw[hvt.1];simp[xB,Hn]⟩
 ·refine⟨z,by unfold eL;exact cf8 _ hz,?_⟩;refine⟨fun h=>?_,fun h=>⟨(hz1 h).1,fun h2=>(hz1 h).2 h2⟩,fun h=>?_⟩
  ·have:v.isText=false:=by
    cases hvt2:v.isText with
    |false=>rfl
    |true=>exact absurd ⟨hvt2,by rw[h];rfl⟩ hvt
   exact⟨by rw[this];exact hz0,fun h2=>by rw[show(xB z).isText=false from hz0] at h2;cases h2⟩
  ·have:v.isText=false:=by
    cases hvt2:v.isText with
    |false=>rfl
    |true=>exact absurd ⟨hvt2,by rw[h];simp⟩ hvt
   rw[this]
   show(z.hasText||z.hasNumber)=_
   rw[hz0,hz2 h]
theorem F3{s:ae}{nums:List Int}{txs:List bb}(hn:∀x,x∈nums->ka x)(ht:∀x,x∈txs->sf x){c:aa}(hc:c∈eL s nums txs):A0 (xB c):=by
 have hnums:∀z,z∈nj s nums->z.hasText=false/\(z.hasNumber=true->ka z.number):=by
  intro z hz;unfold nj at hz;rcases aq8.1 hz with e|hz
  ·rw[e];exact⟨rfl,by simp[zV]⟩
  ·split at hz
   ·obtain⟨n,hn2,rfl⟩:=bb8.1 hz;exact⟨Y,fun _=>hn n hn2⟩
   ·simp at hz
 unfold eL at hc;rcases bw9.1 hc with hc|hc
 ·obtain⟨h1,h2⟩:=hnums c hc;exact⟨fun h=>absurd (h1.symm.trans h) (by simp),h2⟩
 ·split at hc
  ·obtain⟨t,ht2,hc⟩:=ad9.1 hc;obtain⟨z,hz,rfl⟩:=bb8.1 hc;exact⟨fun _=>ht t ht2,fun h=>(hnums z hz).2 h⟩
  ·simp at hc
set_option maxRecDepth 100000
structure iT(l:Lf):Prop where
 k:2<=l.k/\l.k<=5
 nm:cE l.nm=true
 len:l.tx.length<=50
 tx:∀s,s∈l.tx->sf s
 n:l.k=5->ka l.n
 op:l.k=5->1<=l.op/\l.op<=5
 tx45:l.k=4\/l.k=5->l.tx=[]
theorem Hi{s:bb}(h:nE s=true):sf s:=by
 unfold nE at h;rw[ap9,decide_eq_true_eq,ap8] at h;refine⟨h.1,fun c hc=>?_⟩;have:=h.2 c hc;unfold xq at this;rw[ap9,decide_eq_true_eq,decide_eq_true_eq] at this;exact this
theorem Ds(a:List bb):∀(l:List bb) (n:Nat),xz a l n=0->∀s,s∈l->nE s=true
 |[],n,_,s,hs=>by simp at hs
 |x::l,n,h,s,hs=>by
  rw[xz] at h;cases hv:nE x with
  |false=>rw[hv] at h;simp at h
  |true=>
   rw[hv] at h;simp only[br9,ch8,if_false] at h;split at h
   ·cases h
   ·rcases aq8.1 hs with e|hs
    ·rw[e];exact hv
    ·exact Ds a l (n+1) h s hs
theorem Kd{a:List bb}(h:C5 a=0):a.length<=50/\∀s,s∈a->sf s:=by
 unfold C5 at h;split at h
 ·cases h
 ·split at h
  ·cases h
  ·exact⟨by omega,fun s hs=>Hi (Ds a a 0 h s hs)⟩
theorem uF{k op n:Int}{nm:bb}{tx:List bb}{ks:List aw}(h:cj ⟨k,nm,tx,op,n,ks⟩=0)(hk:2<=k/\k<=5):iT ⟨k,nm,tx,op,n⟩/\ks=[]:=by
 unfold cj at h;dsimp only at h;rw[if_neg (by omega),if_neg (show ¬k=6 by omega),if_neg (show ¬7<=k by omega)] at h;split at h
 ·cases h
 ·rename_i h1;rw[aq9,aq9,aq9,not_or,not_or,not_or] at h1;obtain⟨⟨⟨_,h2⟩,h3⟩,h4⟩:=h1;split at h
  ·cases h
  ·rename_i h5
   have hnm:cE nm=true:=by
    cases hb:cE nm with
    |true=>rfl
    |false=>rw[hb,decide_eq_true hk.1,decide_eq_true hk.2] at h5;simp at h5
   have hks:ks=[]:=by
    have:(ks.length==0)=true:=by simpa using h4
    exact ax9.1 (by simpa using this)
   have htx:¬(k=2\/k=3)->tx=[]:=by
    intro hn;have e1:(k==2)=false:=beq_false_of_ne (by omega);have e2:(k==3)=false:=beq_false_of_ne (by omega);rw[e1,e2] at h2;simp only[Bool.or_self,bt9,ah9,decide_eq_true_eq] at h2;exact ax9.1 (by omega)
   split at h
   ·rename_i h6;obtain⟨g1,g2⟩:=Kd h;exact⟨⟨hk,hnm,g1,g2,fun h=>by simp only at h;omega,fun h=>by simp only at h;omega,fun h=>by simp only at h;omega⟩,hks⟩
   ·rename_i h6;have:=htx h6;subst this;split at h
    ·rename_i h7;split at h
     ·cases h
     ·rename_i h8;split at h
      ·cases h
      ·rename_i h9;unfold sc at h9;rw[aq9,decide_eq_true_eq,decide_eq_true_eq] at h9;exact⟨⟨hk,hnm,by simp,by simp,fun _=>⟨by simp only;omega,by simp only;omega⟩,fun _=>⟨by simp only;omega,by simp only;omega⟩,fun _=>rfl⟩,hks⟩
    ·rename_i h7;exact⟨⟨hk,hnm,by simp,by simp,fun h=>absurd h h7,fun h=>absurd h h7,fun _=>rfl⟩,hks⟩
theorem sr:∀t:Tr,t.flt=0->∀l,l∈t.lvs->iT l:=Tr.ind fun k nm tx op n ks ih hz l hl=>by
 obtain⟨hnode,hfl⟩:=lP hz;have hkk:=mL hnode;dsimp only at hkk;rw[Tr.lvs] at hl;split at hl
 ·simp at hl
 ·split at hl
  ·obtain⟨t,ht,h⟩:=iz.1 hl;exact ih t ht (eU hfl ht) l h
  ·simp only[bj9] at hl;rw[hl];exact(uF hnode (by omega)).1
theorem Ba:∀t:Tr,t.lvs.length<=t.cnt:=Tr.ind fun k nm tx op n ks ih=>by
 rw[Tr.lvs,Tr.cnt]
 have:∀l:List Tr,(∀t,t∈l->t∈ks)->(Tr.lvss l).length<=Tr.cnts l:=by
  intro l
  induction l with
  |nil=>intro _;simp[Tr.lvss,Tr.cnts]
  |cons t r ihr=>
   intro hm;rw[Tr.lvss,Tr.cnts,be8];have h1:=ih t (hm t (by simp));have h2:=ihr fun u hu=>hm u (by simp[hu]);omega
 have h:=this ks fun _ h=>h;split
 ·simp
 ·split
  ·omega
  ·simp
theorem qe{τ:Type}{T:Nat}{enc:τ->List V}{y:τ}:(uI T enc y).t=T:=rfl
def zt:ae:=⟨[],[],[],false,false,false,2⟩
def ef(all:tk)(n:bb):ae:=match aY all n with
 |some (some s)=>s
 |_=>zt
def rI(l:Lf)(s:ae):ae:=
 if l.k=2 then ⟨s.is++l.tx,s.begins,s.numbers,true,s.asNo,s.has,bh (s.weight+((l.tx.length:Nat):Int))⟩
 else if l.k=3 then ⟨s.is,s.begins++l.tx,s.numbers,true,s.asNo,s.has,bh (s.weight+bh (2*((l.tx.length:Nat):Int)))⟩
 else if l.k=4 then ⟨s.is,s.begins,s.numbers,s.asText,s.asNo,true,s.weight⟩
 else ⟨s.is,s.begins,s.numbers++[l.n],s.asText,true,s.has,bh (s.weight+2)⟩
def jq(all:tk)(l:Lf):tk:=co all l.nm (some (rI l (ef all l.nm)))
theorem Cf{κ τ:Type}[DecidableEq κ](m:List (κ×τ))(k:κ)(v w:τ):co (co m k v) k w=co m k w:=by
 induction m with
 |nil=>simp[co]
 |cons p r ih=>
  rw[co];by_cases e:p.1=k
  ·rw[if_pos e,co,if_pos rfl,co,if_pos e]
  ·rw[if_neg e,co,if_neg e,ih,co,if_neg e]
structure Bd(all:tk)(B:Nat):Prop where
 so:∀n,aY all n≠some none
 li:∀n,(ef all n).is.length<=B/\(ef all n).begins.length<=B/\(ef all n).numbers.length<=B
theorem ly(all:tk)(l:Lf)(n:bb):ef (jq all l) n=if l.nm=n then rI l (ef all l.nm) else ef all n:=by
 unfold jq;by_cases e:l.nm=n
 ·rw[if_pos e]
  show(match aY (co all l.nm _) n with|some (some s)=>s|_=>zt)=_
  rw[dl,if_pos e]
 ·rw[if_neg e]
  show(match aY (co all l.nm _) n with|some (some s)=>s|_=>zt)=_
  rw[dl,if_neg e];rfl
theorem Bd.add{all:tk}{B:Nat}(h:Bd all B){l:Lf}(hl:l.tx.length<=50):Bd (jq all l) (B+50):=by
 refine⟨fun n=>?_,fun n=>?_⟩
 ·unfold jq;rw[dl];split
  ·simp
  ·exact h.so n
 ·rw[ly];have h1:=h.li n;have h2:=h.li l.nm;split
  ·unfold rI;split
   ·simp only[be8];omega
   ·split
    ·simp only[be8];omega
    ·split
     ·simp only;omega
     ·simp only[be8,List.length_singleton];omega
  ·omega
theorem wY(F:Nat)(all:tk)(n:bb)(h:aY all n≠some none):∃xs,Gw F n all=some (xs,ef all n)/\∀v,co xs n v=co all n v:=by
 unfold Gw ef;cases hm:aY all n with
 |none=>exact⟨_,rfl,fun v=>Cf _ _ _ _⟩
 |some q=>
  cases q with
  |none=>exact absurd hm h
  |some s=>exact⟨_,rfl,fun _=>rfl⟩
theorem rp:∀(ls:List Lf) (all:tk) (B:Nat),Bd all B->(∀l,l∈ls->iT l)->Bd (ls.foldl jq all) (B+50*ls.length)
 |[],all,B,h,_=>by simpa using h
 |l::r,all,B,h,hl=>by
  have:=rp r (jq all l) (B+50) (h.add (hl l (by simp)).len) fun m hm=>hl m (by simp[hm]);rw[bs9];refine⟨this.so,fun n=>?_⟩;have h1:=this.li n;simp only[bt8];omega
theorem L8:∀t:Tr,t.ok->t.flt=0->∀F,t.fu<=F->∀(all:tk) (B:Nat),Bd all B->B+50*t.lvs.length<=1000000->Ha F t.cd all=some (t.lvs.foldl jq all):=Tr.ind fun k nm tx op n ks ih ok hz F hF all B hB hb=>by
 rw[Tr.fu] at hF;have hlo:=sr _ hz;obtain⟨hnode,hfl⟩:=lP hz;obtain⟨F,rfl⟩:∃G,F=G+1:=⟨F - 1,by omega⟩
 show lj (Ha F) F (Tr.mk k nm tx op n ks).cd all=_
 have hkk:=mL hnode;dsimp only at hkk;have hk':k=1\/k=2\/k=3\/k=4\/k=5\/k=6\/k=7\/k=8:=by omega
 rw[Tr.lvs] at hb hlo ⊢;rw[Tr.cd]
 have hl1:∀(l:List Tr) (all:tk) (B:Nat),Bd all B->(∀t,t∈l->t∈ks)->B+50*(Tr.lvss l).length<=1000000->gi (Ha F) F (fun m=>some m) (Tr.cds l) all=some ((Tr.lvss l).foldl jq all):=by
  intro l
  induction l with
  |nil=>intro all B _ _ _;rw[Tr.cds,Tr.lvss];rfl
  |cons t r ihr=>
   intro all B hB hm hb;rw[Tr.lvss,be8] at hb;have ht:=hm t (by simp);rw[Tr.cds,gi,ih t ht (Tr.oks_mem (Tr.okks ok).1 ht) (eU hfl ht) F (by have:=Tr.fu_mem ht;omega) all B hB (by omega),bv9,Tr.lvss,List.foldl_append];exact ihr _ _ (rp t.lvs all B hB fun l hl=>sr t (eU hfl ht) l hl) (fun u hu=>hm u (by simp[hu])) (by omega)
 have hl2:∀(l:List Tr) (all:tk) (B:Nat),Bd all B->(∀t,t∈l->t∈ks)->B+50*(Tr.lvss l).length<=1000000->gi (Ha F) F (fun m=>some m) (Tr.cds l) all=some ((Tr.lvss l).foldl jq all):=by
  intro l
  induction l with
  |nil=>intro all B _ _ _;rw[Tr.cds,Tr.lvss];rfl
  |cons t r ihr=>
   intro all B hB hm hb;rw[Tr.lvss,be8] at hb;have ht:=hm t (by simp);rw[Tr.cds,gi,ih t ht (Tr.oks_mem (Tr.okks ok).1 ht) (eU hfl ht) F (by have:=Tr.fu_mem ht;omega) all B hB (by omega),bv9,Tr.lvss,List.foldl_append];exact ihr _ _ (rp t.lvs all B hB fun l hl=>sr t (eU hfl ht) l hl) (fun u hu=>hm u (by simp[hu])) (by omega)
 rcases hk' with e|e|e|e|e|e|e|e
 ·subst e;simp only[show ¬(1:Int)=2 by decide,show ¬(1:Int)=3 by decide,show ¬(1:Int)=4 by decide,show ¬(1:Int)=5 by decide,show ¬(1:Int)=6 by decide,show ¬(1:Int)=7 by decide,show ¬(1:Int)=8 by decide,if_false,if_true] at hb hlo ⊢;unfold lj;simp only[qe];refine(if_neg (show ¬Nat.beq 159 147=true by decide)).trans ?_;refine(if_neg (show ¬Nat.beq 159 148=true by decide)).trans ?_;refine(if_neg (show ¬Nat.beq 159 150=true by decide)).trans ?_;refine(if_neg (show ¬Nat.beq 159 152=true by decide)).trans ?_;refine(if_neg (show ¬Nat.beq 159 154=true by decide)).trans ?_;refine(if_neg (show ¬Nat.beq 159 156=true by decide)).trans ?_;refine(if_neg (show ¬Nat.beq 159 157=true by decide)).trans ?_;rfl
 ·subst e;simp only[show ¬(2:Int)=1 by decide,show ¬(2:Int)=3 by decide,show ¬(2:Int)=4 by decide,show ¬(2:Int)=5 by decide,show ¬(2:Int)=6 by decide,show ¬(2:Int)=7 by decide,show ¬(2:Int)=8 by decide,show ¬((2:Int)=6\/(2:Int)=7\/(2:Int)=8) by decide,if_false,if_true,List.length_singleton] at hb hlo ⊢;unfold lj;simp only[qe];refine(if_pos (show Nat.beq 147 147=true from Y)).trans ?_;obtain⟨xs,e1,e2⟩:=wY F all nm (hB.so nm);have h1:=hB.li nm;have h2:=(hlo ⟨2,nm,tx,op,n⟩ (by simp)).len;simp only at h2;rw[dL Fp,bv9,e1,bv9,if_pos (by simp only[be8,List.length_singleton];omega)];dsimp only;rw[e2];rfl
 ·subst e;simp only[show ¬(3:Int)=1 by decide,show ¬(3:Int)=2 by decide,show ¬(3:Int)=4 by decide,show ¬(3:Int)=5 by decide,show ¬(3:Int)=6 by decide,show ¬(3:Int)=7 by decide,show ¬(3:Int)=8 by decide,show ¬((3:Int)=6\/(3:Int)=7\/(3:Int)=8) by decide,if_false,if_true,List.length_singleton] at hb hlo ⊢;unfold lj;simp only[qe];refine(if_neg (show ¬Nat.beq 148 147=true by decide)).trans ?_;refine(if_pos (show Nat.beq 148 148=true from Y)).trans ?_;obtain⟨xs,e1,e2⟩:=wY F all nm (hB.so nm);have h1:=hB.li nm;have h2:=(hlo ⟨3,nm,tx,op,n⟩ (by simp)).len;simp only at h2;rw[dL sD,bv9,e1,bv9,if_pos (by simp only[be8,List.length_singleton];omega)];dsimp only;rw[e2];rfl
 ·subst e;simp only[show ¬(4:Int)=1 by decide,show ¬(4:Int)=2 by decide,show ¬(4:Int)=3 by decide,show ¬(4:Int)=5 by decide,show ¬(4:Int)=6 by decide,show ¬(4:Int)=7 by decide,show ¬(4:Int)=8 by decide,show ¬((4:Int)=6\/(4:Int)=7\/(4:Int)=8) by decide,if_false,if_true,List.length_singleton] at hb hlo ⊢;unfold lj;simp only[qe];refine(if_neg (show ¬Nat.beq 150 147=true by decide)).trans ?_;refine(if_neg (show ¬Nat.beq 150 148=true by decide)).trans ?_;refine(if_pos (show Nat.beq 150 150=true from Y)).trans ?_;obtain⟨xs,e1,e2⟩:=wY F all nm (hB.so nm);rw[dL Bi,bv9,e1,bv9];dsimp only;rw[e2];rfl
 ·subst e;simp only[show ¬(5:Int)=1 by decide,show ¬(5:Int)=2 by decide,show ¬(5:Int)=3 by decide,show ¬(5:Int)=4 by decide,show ¬(5:Int)=6 by decide,show ¬(5:Int)=7 by decide,show ¬(5:Int)=8 by decide,show ¬((5:Int)=6\/(5:Int)=7\/(5:Int)=8) by decide,if_false,if_true,List.length_singleton] at hb hlo ⊢;unfold lj;simp only[qe];refine(if_neg (show ¬Nat.beq 152 147=true by decide)).trans ?_;refine(if_neg (show ¬Nat.beq 152 148=true by decide)).trans ?_;refine(if_neg (show ¬Nat.beq 152 150=true by decide)).trans ?_;refine(if_pos (show Nat.beq 152 152=true from Y)).trans ?_;obtain⟨xs,e1,e2⟩:=wY F all nm (hB.so nm);have h1:=hB.li nm;have h2:=(hlo ⟨5,nm,tx,op,n⟩ (by simp)).len;simp only at h2;rw[dL sC,bv9,e1,bv9,if_pos (by simp only[be8,List.length_singleton];omega)];dsimp only;rw[e2];rfl
 ·subst e;simp only[show ¬(6:Int)=1 by decide,show ¬(6:Int)=2 by decide,show ¬(6:Int)=3 by decide,show ¬(6:Int)=4 by decide,show ¬(6:Int)=5 by decide,show ¬(6:Int)=7 by decide,show ¬(6:Int)=8 by decide,if_false,if_true,or_true,true_or,or_false,false_or] at hb hlo ⊢;unfold lj;simp only[qe];refine(if_neg (show ¬Nat.beq 154 147=true by decide)).trans ?_;refine(if_neg (show ¬Nat.beq 154 148=true by decide)).trans ?_;refine(if_neg (show ¬Nat.beq 154 150=true by decide)).trans ?_;refine(if_neg (show ¬Nat.beq 154 152=true by decide)).trans ?_;refine(if_pos (show Nat.beq 154 154=true from Y)).trans ?_;have h1:ks.length=1:=by rw[<-oK hnode rfl];exact(Tr.toKs_len ks).symm
  match ks,h1,ih,ok,hb,hfl,hF with
  |[t],_,ih,ok,hb,hfl,hF=>
   rw[dL Bh,bv9];simp only[Tr.lvss,aa8] at hb ⊢
   show(Ha F ((Tr.cds [t]).headD _) all).bind _=_
   rw[Tr.cds,List.headD_cons,ih t (by simp) (Tr.oks_mem (Tr.okks ok).1 (by simp)) (eU hfl (by simp)) F (by have:=Tr.fu_mem (ks:=[t]) (t:=t) (by simp);omega) all B hB hb,bv9]
 ·subst e;simp only[show ¬(7:Int)=1 by decide,show ¬(7:Int)=2 by decide,show ¬(7:Int)=3 by decide,show ¬(7:Int)=4 by decide,show ¬(7:Int)=5 by decide,show ¬(7:Int)=6 by decide,show ¬(7:Int)=8 by decide,if_false,if_true,or_true,true_or,or_false,false_or] at hb hlo ⊢;unfold lj;simp only[qe];refine(if_neg (show ¬Nat.beq 156 147=true by decide)).trans ?_;refine(if_neg (show ¬Nat.beq 156 148=true by decide)).trans ?_;refine(if_neg (show ¬Nat.beq 156 150=true by decide)).trans ?_;refine(if_neg (show ¬Nat.beq 156 152=true by decide)).trans ?_;refine(if_neg (show ¬Nat.beq 156 154=true by decide)).trans ?_;refine(if_pos (show Nat.beq 156 156=true from Y)).trans ?_;rw[dL Bk,bv9,aA];exact hl1 ks all B hB (fun _ h=>h) hb
 ·subst e;simp only[show ¬(8:Int)=1 by decide,show ¬(8:Int)=2 by decide,show ¬(8:Int)=3 by decide,show ¬(8:Int)=4 by decide,show ¬(8:Int)=5 by decide,show ¬(8:Int)=6 by decide,show ¬(8:Int)=7 by decide,if_false,if_true,or_true,true_or,or_false,false_or] at hb hlo ⊢;unfold lj;simp only[qe];refine(if_neg (show ¬Nat.beq 157 147=true by decide)).trans ?_;refine(if_neg (show ¬Nat.beq 157 148=true by decide)).trans ?_;refine(if_neg (show ¬Nat.beq 157 150=true by decide)).trans ?_;refine(if_neg (show ¬Nat.beq 157 152=true by decide)).trans ?_;refine(if_neg (show ¬Nat.beq 157 154=true by decide)).trans ?_;refine(if_neg (show ¬Nat.beq 157 156=true by decide)).trans ?_;refine(if_pos (show Nat.beq 157 157=true from Y)).trans ?_;rw[dL Bj,bv9,aA];exact hl2 ks all B hB (fun _ h=>h) hb
def lw(l:Lf):Nat:=if l.k=2 then l.tx.length else if l.k=3 then 2*l.tx.length else if l.k=4 then 0 else 2
def G5(ls:List Lf)(n:bb):Nat:=(ls.map fun l=>if l.nm=n then lw l else 0).sum
theorem Hd(d:List Lf)(l:Lf)(n:bb):G5 (d++[l]) n=G5 d n+(if l.nm=n then lw l else 0):=by
 unfold G5;simp
theorem JB{l:Lf}(h:iT l):lw l<=100:=by
 have:=h.len;unfold lw
 repeat' split
 all_goals omega
theorem Dc{ls:List Lf}(h:∀l,l∈ls->iT l)(n:bb):G5 ls n<=100*ls.length:=by
 unfold G5
 induction ls with
 |nil=>simp
 |cons l r ih=>
  have h1:=ih fun m hm=>h m (by simp[hm]);have h2:=JB (h l (by simp));simp only[bi9,List.sum_cons,bt8];split<;>omega
structure N9(s:ae)(w:Nat):Prop where
 is:∀e,e∈s.is->sf e
 bg:∀e,e∈s.begins->sf e
 ns:∀n,n∈s.numbers->ka n
 tx:s.asText=false->s.is=[]/\s.begins=[]
 wt:s.weight=2+(w:Int)
 sz:s.is.length+2*s.begins.length+2*s.numbers.length=w
structure Ga(all:tk)(d:List Lf):Prop where
 kn:KN all
 ke:∀n,n∈all.map (·.1)<->∃l,l∈d/\l.nm=n
 sm:∀n,n∈all.map (·.1)->aY all n=some (some (ef all n))
 lf:∀l,l∈d->Cj (ef all l.nm) l
 ok:∀n,N9 (ef all n) (G5 d n)
 ln:all.length<=d.length
theorem E9{κ τ:Type}[DecidableEq κ](m:List (κ×τ))(k:κ)(v:τ):(co m k v).length<=m.length+1:=by
 induction m with
 |nil=>simp[co]
 |cons p r ih=>
  rw[co];split
  ·simp
  ·simp only[bt8];omega
theorem Ci{s:ae}{l m:Lf}(h:Cj s m):Cj (rI l s) m:=by
 unfold rI;rcases h with ⟨a,b,c⟩|⟨a,b,c⟩|⟨a,b⟩|⟨a,b,c⟩
 ·refine .inl ⟨a,?_⟩
  repeat' split
  all_goals first|exact⟨fun e he=>cf8 _ (b e he),rfl⟩|exact⟨b,rfl⟩|exact⟨b,c⟩
 ·refine .inr (.inl ⟨a,?_⟩)
  repeat' split
  all_goals first|exact⟨fun e he=>cf8 _ (b e he),rfl⟩|exact⟨b,rfl⟩|exact⟨b,c⟩
 ·refine .inr (.inr (.inl ⟨a,?_⟩))
  repeat' split
  all_goals first|exact b|rfl
 ·refine .inr (.inr (.inr ⟨a,?_⟩))
  repeat' split
  all_goals first|exact⟨cf8 _ b,rfl⟩|exact⟨b,rfl⟩|exact⟨b,c⟩
theorem E8{s:ae}{l:Lf}(h:iT l):Cj (rI l s) l:=by
 have hk:=h.k;unfold rI;by_cases h2:l.k=2
 ·rw[if_pos h2];exact .inl ⟨h2,fun e he=>List.mem_append_right _ he,Y⟩
 rw[if_neg h2];by_cases h3:l.k=3
 ·rw[if_pos h3];exact .inr (.inl ⟨h3,fun e he=>List.mem_append_right _ he,Y⟩)
 rw[if_neg h3];by_cases h4:l.k=4
 ·rw[if_pos h4];exact .inr (.inr (.inl ⟨h4,Y⟩))
 rw[if_neg h4];exact .inr (.inr (.inr ⟨by omega,by simp,Y⟩))
theorem N9.upd{s:ae}{w:Nat}(h:N9 s w){l:Lf}(hl:iT l)(hw:w<=700000):N9 (rI l s) (w+lw l):=by
 have hk:=hl.k;have hlen:=hl.len;have hwt:=h.wt;have hsz:=h.sz;unfold rI lw;by_cases h2:l.k=2
 ·rw[if_pos h2,if_pos h2];refine⟨fun e he=>(bw9.1 he).elim (h.is e) (hl.tx e),h.bg,h.ns,fun h=>absurd h (by simp),?_,?_⟩
  ·dsimp only;rw[cc (by omega) (by omega)];omega
  ·dsimp only;rw[be8];omega
 rw[if_neg h2,if_neg h2];by_cases h3:l.k=3
 ·rw[if_pos h3,if_pos h3];refine⟨h.is,fun e he=>(bw9.1 he).elim (h.bg e) (hl.tx e),h.ns,fun h=>absurd h (by simp),?_,?_⟩
  ·dsimp only;rw[cc (n:=2*((l.tx.length:Nat):Int)) (by omega) (by omega),cc (by omega) (by omega)];omega
  ·dsimp only;rw[be8];omega
 rw[if_neg h3,if_neg h3];by_cases h4:l.k=4
 ·rw[if_pos h4,if_pos h4];exact⟨h.is,h.bg,h.ns,h.tx,by simpa using hwt,by simpa using hsz⟩
 rw[if_neg h4,if_neg h4];refine⟨h.is,h.bg,fun n hn=>?_,h.tx,?_,?_⟩
 ·rcases bw9.1 hn with hn|hn
  ·exact h.ns n hn
  ·simp only[bj9] at hn;rw[hn];exact hl.n (by omega)
 ·dsimp only;rw[cc (by omega) (by omega)];omega
 ·dsimp only;rw[be8,List.length_singleton];omega
theorem Ga.add{all:tk}{d:List Lf}(h:Ga all d){l:Lf}(hl:iT l)(hd:∀l,l∈d->iT l)(hlen:d.length<=6100):Ga (jq all l) (d++[l]):=by
 have hke:∀n,n∈(jq all l).map (·.1)<->n=l.nm\/n∈all.map (·.1):=fun n=>uQ n;refine⟨h.kn.put,fun n=>?_,fun n hn=>?_,fun m hm=>?_,fun n=>?_,?_⟩
 ·rw[hke,h.ke];constructor
  ·rintro(e|⟨m,hm,e⟩)
   ·exact⟨l,by simp,e.symm⟩
   ·exact⟨m,by simp[hm],e⟩
  ·rintro⟨m,hm,e⟩
   rcases bw9.1 hm with hm|hm
   ·exact .inr ⟨m,hm,e⟩
   ·simp only[bj9] at hm;rw[<-hm];exact .inl e.symm
 ·rw[ly];unfold jq;rw[dl];by_cases e:l.nm=n
  ·rw[if_pos e,if_pos e]
  ·rw[if_neg e,if_neg e];exact h.sm n (((hke n).1 hn).resolve_left (Ne.symm e))
 ·rw[ly];rcases bw9.1 hm with hm|hm
  ·have:=h.lf m hm;split
   ·rename_i e;rw[e];exact Ci this
   ·exact this
  ·simp only[bj9] at hm;rw[hm,if_pos rfl];exact E8 hl
 ·rw[ly,Hd];by_cases e:l.nm=n
  ·rw[if_pos e,if_pos e,<-e];exact(h.ok l.nm).upd hl (by have:=Dc hd l.nm;omega)
  ·rw[if_neg e,if_neg e];exact h.ok n
 ·have:=E9 all l.nm (some (rI l (ef all l.nm)));have:=h.ln;simp only[be8,List.length_singleton];unfold jq;omega
theorem Ga.fold:∀(ls d:List Lf) (all:tk),Ga all d->(∀l,l∈ls->iT l)->(∀l,l∈d->iT l)->d.length+ls.length<=6100->Ga (ls.foldl jq all) (d++ls)
 |[],d,all,h,_,_,_=>by simpa using h
 |l::r,d,all,h,hl,hd,hlen=>by
  simp only[bt8] at hlen
  have:=Ga.fold r (d++[l]) (jq all l) (h.add (hl l (by simp)) hd (by omega)) (fun m hm=>hl m (by simp[hm])) (fun m hm=>(bw9.1 hm).elim (hd m) fun hm=>by
   simp only[bj9] at hm;rw[hm];exact hl l (by simp)) (by simp;omega)
  rw[bs9]
  simpa using this
def eF(ls:List Lf):tk:=ls.foldl jq []
def fQ(ls:List Lf):Prop:=(∀l,l∈ls->iT l)/\ls.length<=6000
def KI(p:B8×(Option ae)):Bool:=match p.2 with|some s=>decide (1<=s.weight/\s.weight<=1000000000000)|none=>false
def Db(s:ae):Int:=if (s.has||(s.asText&&s.asNo))=true then s.weight+1 else s.weight
def AF(p:B8×(Option ae)):Int:=match p.2 with|some s=>Db s|none=>1
def fq:List (B8×(Option ae))->Int
 |[]=>1
 |p::l=>AF p*fq l
theorem zC{l l':List (B8×(Option ae))}(h:l.Perm l'):fq l=fq l':=by
 induction h with
 |nil=>rfl
 |cons x _ ih=>simp only[fq,ih]
 |swap x y l=>simp only[fq];rw[<-Int.mul_assoc,<-Int.mul_assoc,Int.mul_comm (AF y)]
 |trans _ _ a b=>exact a.trans b
theorem Hc{p:B8×(Option ae)}(h:KI p=true):1<=AF p:=by
 obtain⟨k,q⟩:=p;cases q with
 |none=>cases h
 |some s=>
  have:=of_decide_eq_true (show decide (1<=s.weight/\s.weight<=1000000000000)=true from h)
  show 1<=Db s
  unfold Db;split<;>omega
theorem uw:∀{l:List (B8×(Option ae))},l.all KI=true->1<=fq l
 |[],_=>by simp[fq]
 |p::l,h=>by
  simp only[ag8,ap9] at h;have h1:=Hc h.1;have h2:=uw h.2
  show 1<=AF p*fq l
  have:=Int.mul_le_mul h1 h2 (by omega) (by omega)
  simpa using this
theorem FE{n w:Int}(hn:1<=n/\n<=200000)(hw:1<=w/\w<=1000000000001):bh (n*w)=n*w/\1<=n*w:=by
 have h1:1*1<=n*w:=Int.mul_le_mul hn.1 hw.1 (by omega) (by omega);have h2:n*w<=200000*1000000000001:=Int.mul_le_mul hn.2 hw.2 (by omega) (by omega);exact⟨cc (by omega) (by omega),by omega⟩
theorem m4(F:Nat):∀(l:List (B8×(Option ae))) (n:Int),1<=n/\n<=200000->l.all KI=true->fN F l n=some (decide (n*fq l<=200000))
 |[],n,hn,_=>by
  unfold fN;simp only[fq,Int.mul_one];rw[decide_eq_true hn.2]
 |p::l,n,hn,hl=>by
  unfold fN;have hl0:=hl;simp only[ag8,ap9] at hl;rw[if_pos ⟨hn,hl0⟩];have hp:=hl.1;obtain⟨k,q⟩:=p;cases q with
  |none=>cases hp
  |some s=>
   have hw:=of_decide_eq_true (show decide (1<=s.weight/\s.weight<=1000000000000)=true from hp);have ih:=fun m hm=>m4 F l m hm hl.2;have hpos:=uw hl.2;have e1:bh (s.weight+1)=s.weight+1:=cc (by omega) (by omega)
   have key:∀w:Int,1<=w/\w<=1000000000001->AF (k,some s)=w->(if (decide ((bh (n*w))>200000))=true then some false else fN F l (bh (n*w)))=some (decide (n*fq ((k,some s)::l)<=200000)):=by
    intro w hw hwe;obtain⟨h1,h2⟩:=FE hn hw;rw[h1]
    show _=some (decide (n*(AF (k,some s)*fq l)<=200000))
    rw[hwe,<-Int.mul_assoc];by_cases hg:n*w>200000
    ·rw[if_pos (decide_eq_true hg)];have:n*w*1<=n*w*fq l:=Int.mul_le_mul_of_nonneg_left hpos (by omega);rw[decide_eq_false (by omega)]
    ·rw[if_neg (by simpa using hg),ih _ ⟨h2,by omega⟩]
   simp only[bv9];cases hh:s.has with
   |true=>
    simp only[if_pos];rw[e1];exact key _ ⟨by omega,by omega⟩ (by simp[AF,Db,hh])
   |false=>
    rw[if_neg (by simp)];cases ht:s.asText with
    |true=>
     simp only[if_pos,jn];cases hn2:s.asNo with
     |true=>
      simp only[if_pos];rw[e1];exact key _ ⟨by omega,by omega⟩ (by simp[AF,Db,hh,ht,hn2])
     |false=>
      rw[if_neg (by simp)];exact key _ ⟨by omega,by omega⟩ (by simp[AF,Db,hh,ht,hn2])
    |false=>
     rw[if_neg (by simp)];exact key _ ⟨by omega,by omega⟩ (by simp[AF,Db,hh,ht])
theorem zF{F:Nat}{l l':List (B8×(Option ae))}{n:Int}{r:Bool}(hp:l.Perm l')(h:fN F l n=some r):fN F l' n=some r:=by
 cases l with
 |nil=>rw[<-hp.nil_eq];exact h
 |cons p t=>
  have hc:(1<=n/\n<=200000)/\(p::t).all KI=true:=by
   unfold fN at h;split at h
   ·rename_i hc;exact hc
   ·cases h
  rw[m4 F _ n hc.1 hc.2] at h;rw[m4 F _ n hc.1 (by rw[<-hc.2];exact(hp.symm.all_eq)),<-zC hp];exact h
theorem Cb(s:ae)(nums:List Int):(nj s nums).length<=nums.length+1:=by
 unfold nj;split<;>simp
theorem lR{α β:Type}(f:α->List β)(B:Nat):∀l:List α,(∀x,x∈l->(f x).length<=B)->(l.flatMap f).length<=l.length*B
 |[],_=>by simp
 |x::l,h=>by
  have h1:=h x (by simp);have h2:=lR f B l fun y hy=>h y (by simp[hy]);simp only[ac9,be8,bt8,al8,Nat.one_mul];omega
theorem Al(s:ae)(nums:List Int)(txs:List bb):(eL s nums txs).length<=(nums.length+1)+txs.length*(nums.length+1):=by
 have h1:=Cb s nums;unfold eL;rw[be8]
 have h2:(if (s.asText||s.has)=true then txs.flatMap (fun t=>(nj s nums).map (Hn t)) else []).length<=txs.length*(nums.length+1):=by
  split
  ·exact lR _ _ _ fun x _=>by rw[bf9];exact h1
  ·simp
 omega
structure Gvs(F:Nat)(s:ae)(nums:List Int)(txs:List bb):Prop where
 g:Gv F s nums txs
 rep:∀v,A0 v->∃c,c∈eL s nums txs/\va s (xB c) v
 ok:∀c,c∈eL s nums txs->A0 (xB c)
theorem KZ{s:ae}{w:Nat}(h:N9 s w)(hw:w<=600000)(F:Nat)(hF:700000<=F):∃nums txs,Gvs F s nums txs:=by
 have hsz:=h.sz;obtain⟨nums,a1,a2,a3⟩:=Ja F s h.ns (by omega);obtain⟨txs,b1,b2,b3⟩:=I9 F s (by omega) (by omega) (by omega) h.bg;have hl:=Al s nums txs;have hm:txs.length*(nums.length+1)<=600001*900002:=Nat.mul_le_mul (by omega) (by omega);refine⟨nums,txs,⟨a1,b1,by omega,by omega⟩,fun v hv=>CF a3 h.ns b3 h.tx v hv,fun c hc=>F3 (fun x hx=>?_) (fun x hx=>?_) hc⟩
 ·rcases(a3 x).1 hx with e|⟨n,_,hn⟩
  ·rw[e];exact⟨by omega,by omega⟩
  ·unfold qx at hn;exact of_decide_eq_true (bv8.1 hn).2
 ·exact(b3.ok x hx).elim (h.is x) id
theorem yo{ls:List Lf}(h:fQ ls):Ga (eF ls) ls:=by
 have h0:Ga [] []:=⟨by simp[KN],fun n=>by simp,fun n hn=>by simp at hn,fun l hl=>by simp at hl,fun n=>⟨by simp[ef,aY,zt],by simp[ef,aY,zt],by simp[ef,aY,zt],fun _=>⟨rfl,rfl⟩,rfl,rfl⟩,by simp⟩;have:=Ga.fold ls [] [] h0 h.1 (by simp) (by have:=h.2;simp;omega);rw[ad8] at this;exact this
def tK(ls:List Lf):List bb:=eQ ((eF ls).map (·.1))
theorem oJ{ls:List Lf}(h:fQ ls){n:bb}:n∈tK ls<->∃l,l∈ls/\l.nm=n:=by
 unfold tK;rw[(ei _).mem_iff];exact(yo h).ke n
theorem uD{ls:List Lf}(h:fQ ls):(tK ls).Nodup:=(ei _).nodup_iff.2 (yo h).kn
theorem vW(ls:List Lf):(tK ls).length=(eF ls).length:=by
 unfold tK;rw[(ei _).length_eq];simp
theorem AH{ls:List Lf}(h:fQ ls)(n:bb):G5 ls n<=600000:=by
 have:=Dc h.1 n;have:=h.2;omega
theorem Jx{ls:List Lf}(h:fQ ls){p:bb×Option ae}(hp:p∈eF ls):p.2=some (ef (eF ls) p.1):=by
 have hg:=yo h;have h1:=E3 hg.kn hp;rw[hg.sm p.1 (bk8 hp)] at h1;exact(ah8 h1).symm
theorem Jr{ls:List Lf}(h:fQ ls){p:bb×Option ae}(hp:p∈eF ls):KI p=true/\2<=AF p:=by
 have h1:=((yo h).ok p.1).wt;have h2:=AH h p.1;unfold KI AF Db;rw[Jx h hp];refine⟨decide_eq_true ⟨by omega,by omega⟩,?_⟩;dsimp only;split<;>omega
theorem M1{ls:List Lf}(h:fQ ls):(eF ls).all KI=true:=ap8.2 fun p hp=>(Jr h hp).1
theorem uv:∀{l:tk},(∀p,p∈l->2<=AF p)->((2 ^ l.length:Nat):Int)<=fq l
 |[],_=>by simp[fq]
 |p::r,h=>by
  have h1:=h p (by simp);have h2:=uv (l:=r) fun m hm=>h m (by simp[hm])
  have h3:(1:Int)<=((2 ^ r.length:Nat):Int):=by
   have:=Nat.one_le_two_pow (n:=r.length);omega
  rw[fq,bt8,Nat.pow_succ,an8];have:=Int.mul_le_mul h1 h2 (by omega) (by omega);rw[Int.natCast_mul];exact this
def wo(ls:List Lf):Bool:=decide (fq (eF ls)<=200000)
theorem On(F:Nat){ls:List Lf}(h:fQ ls):Oo F (eF ls)=some (wo ls):=by
 unfold Oo wo;rw[m4 F _ 1 ⟨by omega,by omega⟩ (M1 h),Int.one_mul]
theorem yu{ls:List Lf}(h:fQ ls)(hf:wo ls=true):(tK ls).length<=17:=by
 have h1:=uv fun p hp=>(Jr h hp).2;have h2:=of_decide_eq_true hf;rw[vW];rcases bn8 17 (eF ls).length with h3|h3
 ·have:=Nat.pow_le_pow_right (n:=2) (by omega) h3;omega
 ·exact h3
theorem xP:A0 ⟨false,false,[],0⟩:=⟨fun h=>absurd h (by simp),fun h=>absurd h (by simp)⟩
structure J0(ls:List Lf)(P:(bb->Option Fd)->Option Bool)(A:(bb->Fd)->Bool):Prop where
 mono:∀s s' b,ext s s'->P s=some b->P s'=some b
 full:∀s a,(∀l,l∈ls->s l.nm=some (a l.nm))->P s=some (A a)
 congr:∀a b,(∀l,l∈ls->l.one (a l.nm)=l.one (b l.nm))->A a=A b
theorem KO{s:bb}(h:cE s=true):s.length<=1000:=by
 unfold cE at h;split at h
 ·cases h
 ·rw[ap9,ap9,ap9,decide_eq_true_eq] at h;omega
def Jp(A:(bb->Fd)->Bool):Prop:=∃v:bb->Fd,(∀n,A0 (v n))/\A v=true
theorem B6{ls:List Lf}(hl:fQ ls)(hf17:wo ls=true){P:(bb->Option Fd)->Option Bool}{A:(bb->Fd)->Bool}(hP:J0 ls P A)(F0:Nat)(cs:List KV)(n0:Int)
  (hC:∀F m kn s,F0<=F->CQ m kn s->LW F ⟨m,some kn⟩ cs n0=some (rN (P (zj s)))) (F:Nat) (hF:F0+700100<=F):
  ∃by_ m' kn' r,MI F (eF ls) cs n0=some (by_,tK ls)/\w5 F 0 by_ cs n0 (tK ls) [] []=some (r,m',kn')/\(r=true<->Jp A)/\
   (r=true->∃s',CQ m' kn' s'/\P (zj s')=some true/\∀n x,s' n=some x->A0 (xB x)/\n∈tK ls):=by
 have hg:=yo hl;have hl17:=yu hl hf17;have hal:(eF ls).length<=17:=by rw[<-vW];exact hl17
 have hgs:=fun n=>KZ (hg.ok n) (AH hl n) F (by omega)
 have hnm:∀n,n∈(eF ls).map (·.1)->n.length<=1000:=fun n hn=>by
  obtain⟨l,h,e⟩:=(hg.ke n).1 hn;exact e ▸ KO (hl.1 l h).nm
 obtain⟨by_,e1,e2⟩:=L5 F (eF ls) cs n0 hg.kn (by omega) (fun p hp=>hnm p.1 (bk8 hp)) (fun n hn=>by
  obtain⟨nums,txs,h⟩:=hgs n;exact⟨ef (eF ls) n,nums,txs,hg.sm n hn,h.g⟩)
 have hnd:=uD hl;have hs0:CQ [] [] (fun _=>none:Mp):=⟨fun _=>rfl,fun _=>rfl,by simp[KN],by simp[KN]⟩
 have hmono:∀(s s':Mp) b,ext s s'->P (zj s)=some b->P (zj s')=some b:=fun s s' b he h=>hP.mono _ _ b (fun n x hx=>by
  unfold zj at hx ⊢;cases hs:s n with
  |none=>rw[hs] at hx;cases hx
  |some y=>rw[hs] at hx;rw[he n y hs];exact hx) h
 obtain⟨m',kn',hf⟩:=Bq (fun s=>P (zj s)) F0 cs n0 hC by_ (tK ls) hnd (by omega) (tK ls) [] rfl F (by omega) [] [] (fun _=>none) hs0 (fun _ _=>rfl)
 have hcan:∀n,n∈tK ls->∃nums txs,Gvs F (ef (eF ls) n) nums txs/\∀x,x∈(aY by_ n).getD []<->x∈eL (ef (eF ls) n) nums txs:=fun n hn=>by
  obtain⟨nums,txs,h⟩:=hgs n;exact⟨nums,txs,h,e2 n _ nums txs (hg.sm n ((ei _).mem_iff.1 hn)) h.g⟩
 rw[show(([]:List bb).length:Int)=0 from rfl] at hf;cases h4:qz? (fun s=>P (zj s)) (fun n=>(aY by_ n).getD []) (tK ls) (fun _=>none) with
 |some s'=>
  rw[h4] at hf;dsimp only at hf;obtain⟨g1,g2,g3⟩:=pO (tK ls) _ s' hnd (fun _ _=>rfl) h4
  have hs':∀n x,s' n=some x->A0 (xB x)/\n∈tK ls:=fun n x hx=>by
   rcases g3 n x hx with h|⟨h,h5⟩
   ·cases h
   ·obtain⟨nums,txs,q1,q2⟩:=hcan n h;exact⟨q1.ok x ((q2 x).1 h5),h⟩
  refine⟨by_,m',kn',true,e1,hf.1,⟨fun _=>?_,fun _=>Y⟩,fun _=>⟨s',hf.2,g1,hs'⟩⟩;refine⟨fun n=>((zj s') n).getD ⟨false,false,[],0⟩,fun n=>?_,?_⟩
  ·unfold zj;dsimp only;cases hx:s' n with
   |none=>exact xP
   |some x=>exact(hs' n x hx).1
  ·have h6:=hP.mono (zj s') (fun n=>some (((zj s') n).getD ⟨false,false,[],0⟩)) true (fun n x hx=>by dsimp only;rw[hx];rfl) g1;rw[hP.full _ (fun n=>((zj s') n).getD ⟨false,false,[],0⟩) fun _ _=>rfl] at h6;exact ah8 h6
 |none=>
  rw[h4] at hf;dsimp only at hf;refine⟨by_,m',kn',false,e1,hf.1,⟨fun h=>absurd h (by simp),fun⟨v,hv,ht⟩=>?_⟩,fun h=>absurd h (by simp)⟩;exfalso
  have hrep:∀n,∃c:aa,n∈tK ls->c∈(aY by_ n).getD []/\va (ef (eF ls) n) (xB c) (v n):=fun n=>by
   by_cases hn:n∈tK ls
   ·obtain⟨nums,txs,q1,q2⟩:=hcan n hn;obtain⟨c,c1,c2⟩:=q1.rep (v n) (hv n);exact⟨c,fun _=>⟨(q2 c).2 c1,c2⟩⟩
   ·exact⟨zV,fun h=>absurd h hn⟩
  obtain⟨a,ha⟩:∃a:bb->aa,∀n,n∈tK ls->a n∈(aY by_ n).getD []/\va (ef (eF ls) n) (xB (a n)) (v n):=⟨fun n=>(hrep n).choose,fun n hn=>(hrep n).choose_spec hn⟩;refine sP hmono (tK ls) _ hnd (fun _ _=>Y) h4 a (fun n hn=>(ha n hn).1) ?_
  rw[hP.full _ (fun n=>xB (a n)) fun l hl2=>by
   have hn:=(oJ hl).2 ⟨l,hl2,rfl⟩;unfold zj nb;dsimp only;rw[if_pos hn];rfl]
  rw[hP.congr _ v fun l hl2=>xO (hg.lf l hl2) (ha l.nm ((oJ hl).2 ⟨l,hl2,rfl⟩)).2,ht]
mutual
def Tr.gd:Tr->Prop
 | .mk k nm tx op n ks=>(cj ⟨k,nm,tx,op,n,Tr.toKs ks⟩=0\/((k=7\/k=8)/\nm=[]))/\Tr.gds ks
def Tr.gds:List Tr->Prop
 |[]=>True
 |t::r=>t.gd/\Tr.gds r
end
theorem mU:∀{ks:List Tr} {t:Tr},Tr.gds ks->t∈ks->t.gd
 |u::r,t,h,hm=>by
  rw[Tr.gds] at h;rcases aq8.1 hm with e|hm
  ·rw[e];exact h.1
  ·exact mU h.2 hm
theorem wn:∀{ks:List Tr},(∀t,t∈ks->t.gd)->Tr.gds ks
 |[],_=>by rw[Tr.gds];trivial
 |u::r,h=>by rw[Tr.gds];exact⟨h u (by simp),wn fun t ht=>h t (by simp[ht])⟩
theorem gZ{k op n:Int}{nm:bb}{tx:List bb}{ks:List Tr}(h:(Tr.mk k nm tx op n ks).gd):(cj ⟨k,nm,tx,op,n,Tr.toKs ks⟩=0\/((k=7\/k=8)/\nm=[]))/\Tr.gds ks:=by
 rw[Tr.gd] at h;exact h
theorem K3:∀t:Tr,t.flt=0->t.gd:=Tr.ind fun k nm tx op n ks ih hz=>by
 obtain⟨hnode,hfl⟩:=lP hz;rw[Tr.gd];exact⟨.inl hnode,wn fun t ht=>ih t ht (eU hfl ht)⟩
theorem sk{s:bb}(h:cE s=true):s≠[]:=by
 rintro rfl;cases h
theorem A4{x:aG}(h:cj x=0)(hk:¬(2<=x.Kind/\x.Kind<=5)):x.Name=[]/\(x.Kind=1->x.Kids=[]):=by
 unfold cj at h;by_cases h0:x.Kind<1\/8<x.Kind
 ·rw[if_pos h0] at h;cases h
 rw[if_neg h0] at h
 by_cases h1:(!(decide (2<=x.Kind)&&decide (x.Kind<=5))&&!(x.Name==[])||!(x.Kind==2||x.Kind==3)&&decide (0<x.Texts.length)||!(x.Kind==5)&&(x.Op != 0||x.N != 0) ||
  !(if x.Kind=6 then x.Kids.length==1 else if 7<=x.Kind then decide (2<=x.Kids.length) else x.Kids.length==0))=true
 ·rw[if_pos h1] at h;cases h
 rw[aq9,aq9,aq9,not_or,not_or,not_or] at h1;obtain⟨⟨⟨h2,_⟩,_⟩,h4⟩:=h1;constructor
 ·have e:(decide (2<=x.Kind)&&decide (x.Kind<=5))=false:=by
   cases hb:(decide (2<=x.Kind)&&decide (x.Kind<=5)) with
   |false=>rfl
   |true=>
    rw[ap9,decide_eq_true_eq,decide_eq_true_eq] at hb;exact absurd hb hk
  rw[e] at h2
  simpa using h2
 ·intro h1;rw[if_neg (by omega),if_neg (by omega)] at h4;have:(x.Kids.length==0)=true:=by simpa using h4
  exact ax9.1 (by simpa using this)
section
variable{k op n:Int}{nm:bb}{tx:List bb}{ks:List Tr}(h:(Tr.mk k nm tx op n ks).gd)
include h
theorem Bl:1<=k/\k<=8:=by
 rcases(gZ h).1 with h|h
 ·exact mL h
 ·omega
theorem K2(h6:k=6):ks.length=1:=by
 rcases(gZ h).1 with h|h
 ·rw[<-oK h h6];exact(Tr.toKs_len ks).symm
 ·omega
theorem Fz(h1:k=1):ks=[]:=by
 rcases(gZ h).1 with h|h
 ·have:=Tr.toKs_len ks;have e:=(A4 h (by dsimp only;omega)).2 h1;dsimp only at e;rw[e] at this;exact ax9.1 this.symm
 ·omega
theorem mN:
  (nm≠[]/\ks=[]/\2<=k/\k<=5/\(Tr.mk k nm tx op n ks).lvs=[⟨k,nm,tx,op,n⟩]/\iT ⟨k,nm,tx,op,n⟩)\/(nm=[]/\(Tr.mk k nm tx op n ks).lvs=Tr.lvss ks):=by
 have hkk:=Bl h;have hone:=Fz h;obtain⟨hnode,hfl⟩:=gZ h;rw[Tr.lvs];by_cases hk:2<=k/\k<=5
 ·rcases hnode with hnode|hnode
  ·obtain⟨h1,h2⟩:=uF hnode hk
   have hks:ks=[]:=by
    have:=Tr.toKs_len ks;rw[h2] at this;exact ax9.1 this.symm
   exact .inl ⟨sk h1.nm,hks,hk.1,hk.2,by rw[if_neg (by omega),if_neg (by omega)],h1⟩
  ·omega
 ·have h1:nm=[]:=by
   rcases hnode with hnode|hnode
   ·exact(A4 hnode hk).1
   ·exact hnode.2
  refine .inr ⟨h1,?_⟩;by_cases h1:k=1
  ·rw[if_pos h1,hone h1];rfl
  ·rw[if_neg h1,if_pos (by omega)]
end
theorem vZ:∀t:Tr,t.gd->∀l,l∈t.lvs->iT l:=Tr.ind fun k nm tx op n ks ih hz l hl=>by
 rcases mN hz with ⟨_,_,_,_,h3,h4⟩|⟨_,h3⟩
 ·rw[h3] at hl;simp only[bj9] at hl;rw[hl];exact h4
 ·rw[h3] at hl;obtain⟨t,ht,h⟩:=iz.1 hl;exact ih t ht (mU (gZ hz).2 ht) l h
abbrev pv(l:List bb):Prop:=l.Pairwise (fun a b=>Op.bytesLess a b=true)
theorem O6{i j:Nat}(h:i+j<=1000000000):bh (Int.tdiv (bh ((i:Int)+(j:Int))) 2)=(((i+j) / 2:Nat):Int):=by
 rw[cc (n:=(i:Int)+(j:Int)) (by omega) (by omega),show((i:Int)+(j:Int))=((i+j:Nat):Int) by omega,show(2:Int)=((2:Nat):Int) from rfl,<-Int.ofNat_tdiv,cc (by omega) (by omega)]
theorem qa(F:Nat)(a:List bb)(x:bb)(k:Int->Option (Int×Bool))(hlen:a.length<=100000000)(hs:pv a):
  ∀(n i j:Nat),i<=j->j<=a.length->j - i<n->(∀q (h:q<a.length),q<i->Op.bytesLess a[q] x=true)->(∀q (h:q<a.length),j<=q->Op.bytesLess a[q] x=false)->
  ∃p:Nat,p<=a.length/\kM F a x k n i j=k p/\(∀q (h:q<a.length),q<p->Op.bytesLess a[q] x=true)/\∀q (h:q<a.length),p<=q->Op.bytesLess a[q] x=false
 |0,i,j,_,_,h,_,_=>by omega
 |n+1,i,j,hij,hj,hn,h1,h2=>by
  rw[kM];by_cases hc:i<j
  ·have hm:(i+j) / 2<a.length:=by omega
   rw[if_pos (decide_eq_true (by omega)),O6 (by omega),bt hm,bv9,aA];by_cases hl:Op.bytesLess a[(i+j) / 2] x=true
   ·rw[if_pos hl,show bh ((((i+j) / 2:Nat):Int)+1)=(((i+j) / 2+1:Nat):Int) by rw[cc (by omega) (by omega)];rfl];refine qa F a x k hlen hs n ((i+j) / 2+1) j (by omega) hj (by omega) (fun q h hq=>?_) h2;rcases bn8 q ((i+j) / 2) with hq2|hq2
    ·exact o8 (au8.1 hs q ((i+j) / 2) h hm hq2) hl
    ·have:q=(i+j) / 2:=by omega
     subst this;exact hl
   ·rw[if_neg hl];refine qa F a x k hlen hs n i ((i+j) / 2) (by omega) (by omega) (by omega) h1 (fun q h hq=>?_);have hl:Op.bytesLess a[(i+j) / 2] x=false:=by simpa using hl
    rcases bn8 ((i+j) / 2) q with hq2|hq2
    ·have:=au8.1 hs ((i+j) / 2) q hm h hq2;cases hh:Op.bytesLess a[q] x
     ·rfl
     ·rw[o8 this hh] at hl;simp at hl
    ·have:q=(i+j) / 2:=by omega
     subst this;exact hl
  ·have:i=j:=by omega
   subst this;rw[if_neg (by simp)];exact⟨i,hj,Y,h1,h2⟩
theorem xd(F:Nat)(a:List bb)(x:bb)(hlen:a.length<=100000000)(hs:pv a)(hF:a.length<F):
  ∃p:Nat,p<=a.length/\zb F a x=some ((p:Int),decide (x∈a))/\(∀q (h:q<a.length),q<p->Op.bytesLess a[q] x=true)/\(∀q (h:q<a.length),p<=q->Op.bytesLess a[q] x=false)/\(x∈a->a[p]? = some x):=by
 obtain⟨p,hp,he,h1,h2⟩:=qa F a x (fun(n4:Int)=>if (decide (n4<((a.length:Nat):Int)))=true then (cq a n4).bind fun x17=>some (n4,(x17==x)) else some (n4,false)) hlen hs F 0 a.length (by omega) (ae8 _) (by omega) (fun q h hq=>by omega) (fun q h hq=>by omega)
 have hin:x∈a->∃h:p<a.length,a[p]=x:=fun hx=>by
  obtain⟨q,hq,e⟩:=bf8 hx;have hpq:p<=q:=at9 fun h=>by have:=h1 q hq h;rw[e,pS] at this;cases this
  have hpl:p<a.length:=by omega
  refine⟨hpl,?_⟩;rcases bn8 p q with h|h
  ·have:=au8.1 hs p q hpl hq h;rw[e,h2 p hpl (ae8 _)] at this;cases this
  ·have:p=q:=by omega
   subst this;exact e
 refine⟨p,hp,?_,h1,h2,fun hx=>?_⟩
 ·unfold zb;rw[aA,show(0:Int)=((0:Nat):Int) from rfl,he];by_cases hpl:p<a.length
  ·rw[if_pos (decide_eq_true (by omega)),bt hpl,bv9]
   have:(a[p]==x)=decide (x∈a):=by
    by_cases hx:x∈a
    ·obtain⟨_,e⟩:=hin hx;rw[decide_eq_true hx,e,beq_self_eq_true]
    ·rw[decide_eq_false hx];exact beq_false_of_ne fun e=>hx (e ▸ ba9 hpl)
   rw[this]
  ·rw[if_neg (by simp;omega),decide_eq_false fun hx=>hpl (hin hx).1]
 ·obtain⟨h,e⟩:=hin hx;rw[ax8 h,e]
theorem Gy(F:Nat)(a:List bb)(x:bb)(hlen:a.length<=100000000)(hs:pv a)(hF:a.length<F):MC F a x=some (decide (x∈a)):=by
 obtain⟨p,_,e,_⟩:=xd F a x hlen hs hF;unfold MC;rw[e];rfl
theorem rB(F:Nat)(a:List bb)(x:bb)(hlen:a.length<=90000000)(hs:pv a)(hF:a.length<F):
  ∃a',xe F a x=some a'/\pv a'/\(∀y,y∈a'<->y=x\/y∈a)/\a'.length<=a.length+1:=by
 obtain⟨p,hp,e,h1,h2,h3⟩:=xd F a x (by omega) hs hF;unfold xe;rw[e,bv9];dsimp only;by_cases hx:x∈a
 ·rw[decide_eq_true hx,if_pos rfl];exact⟨a,rfl,hs,fun y=>⟨.inr,fun h=>h.elim (fun e=>e ▸ hx) id⟩,by omega⟩
 ·rw[decide_eq_false hx,if_neg (by simp)];have hpn:((p:Int)).toNat=p:=rfl;rw[hpn,if_pos ⟨by omega,hp⟩,if_pos (by simp;omega),if_pos (by simp;omega),if_pos ⟨by omega,hp⟩,if_pos (by simp;omega)];refine⟨_,rfl,?_,fun y=>?_,by simp;omega⟩
  ·have hlt:∀y,y∈a.take p->Op.bytesLess y x=true:=fun y hy=>by
    obtain⟨q,hq,e⟩:=bf8 hy;rw[List.getElem_take] at e;rw[<-e];rw[bg9] at hq;exact h1 q (by omega) (by omega)
   have hgt:∀y,y∈a.drop p->Op.bytesLess x y=true:=fun y hy=>by
    obtain⟨q,hq,e⟩:=bf8 hy;rw[List.getElem_drop] at e;rw[am9] at hq;have:=h2 (p+q) (by omega) (by omega);rw[e] at this;rcases F6 x y with h|h|h
    ·exact h
    ·exact absurd (h ▸ List.mem_of_mem_drop hy) hx
    ·rw[h] at this;cases this
   refine bq9.2 ⟨bq9.2 ⟨hs.sublist (List.take_sublist _ _),by simp,fun b hb c hc=>?_⟩,hs.sublist (List.drop_sublist _ _),fun b hb c hc=>?_⟩
   ·simp only[bj9] at hc;rw[hc];exact hlt b hb
   ·rcases bw9.1 hb with hb|hb
    ·exact o8 (hlt b hb) (hgt c hc)
    ·simp only[bj9] at hb;rw[hb];exact hgt c hc
  ·rw[bw9,bw9,bj9]
   conv=>rhs;rw[<-cf9 p a]
   rw[bw9];constructor
   ·rintro((h|h)|h)
    ·exact .inr (.inl h)
    ·exact .inl h
    ·exact .inr (.inr h)
   ·rintro(h|h|h)
    ·exact .inl (.inr h)
    ·exact .inl (.inl h)
    ·exact .inr h
end Go.Proofs.YtelmfadihfcgnaaGreatDoor
