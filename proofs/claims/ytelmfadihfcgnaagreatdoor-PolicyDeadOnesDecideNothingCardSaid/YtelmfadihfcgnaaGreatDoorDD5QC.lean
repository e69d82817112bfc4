/- Part of the proof: D5PC, D5PD, D5PE, D5PF, FA, D5QA, D5QB, D5QC. -/
import Derived.Test.YtelmfadihfcgnaaGreatDoorDD5PB
import Init.Data.List.Lemmas
namespace Go.Proofs.YtelmfadihfcgnaaGreatDoor
open Go Go.Pv
set_option linter.unusedVariables false
set_option linter.unusedSimpArgs false
set_option maxRecDepth 100000
mutual
theorem Tr.ind{P:Tr->Prop}(h:∀a b c d e ks,(∀t,t∈ks->P t)->P (.mk a b c d e ks)):∀t:Tr,P t
 | .mk a b c d e ks=>h a b c d e ks (Tr.inds h ks)
theorem Tr.inds{P:Tr->Prop}(h:∀a b c d e ks,(∀t,t∈ks->P t)->P (.mk a b c d e ks)):∀(ks:List Tr) (t:Tr),t∈ks->P t
 |[],_,hu=>absurd hu (by simp)
 |t::r,u,hu=>by
  rcases List.mem_cons.1 hu with e|hu
  ·rw[e];exact Tr.ind h t
  ·exact Tr.inds h r u hu
end
noncomputable section
mutual
def Tr.fu:Tr->Nat
 | .mk a b c d e ks=>c.length+ks.length+2+Tr.fus ks
def Tr.fus:List Tr->Nat
 |[]=>0
 |t::r=>t.fu+Tr.fus r
end
mutual
def Tr.cnt:Tr->Nat
 | .mk a b c d e ks=>1+Tr.cnts ks
def Tr.cnts:List Tr->Nat
 |[]=>0
 |t::r=>t.cnt+Tr.cnts r
end
mutual
def Tr.dep:Tr->Nat
 | .mk a b c d e ks=>1+Tr.deps ks
def Tr.deps:List Tr->Nat
 |[]=>0
 |t::r=>max t.dep (Tr.deps r)
end
mutual
def Tr.flt:Tr->Int
 | .mk a b c d e ks=>if nodeV ⟨a,b,c,d,e,Tr.toKs ks⟩=0 then Tr.flts ks else nodeV ⟨a,b,c,d,e,Tr.toKs ks⟩
def Tr.flts:List Tr->Int
 |[]=>0
 |t::r=>if t.flt=0 then Tr.flts r else t.flt
end
def Tr.toK(t:Tr):KRow:=⟨encTTest t.toT,imms_encTTest _,one_encTTest _⟩
end
theorem Tr.dec(t:Tr):kdec encTTest t.toK=some t.toT:=kdec_toK t
theorem Tr.toKs_map:∀ks:List Tr,Tr.toKs ks=ks.map Tr.toK
 |[]=>by simp[Tr.toKs]
 |t::r=>by rw[Tr.toKs,Tr.toKs_map r];rfl
theorem Tr.fu_mem:∀{ks:List Tr} {t:Tr},t∈ks->t.fu<=Tr.fus ks
 |u::r,t,h=>by
  rw[Tr.fus]
  rcases List.mem_cons.1 h with e|h
  ·subst e;omega
  ·have:=Tr.fu_mem h;omega
theorem Tr.oks_mem:∀{ks:List Tr} {t:Tr},Tr.oks ks->t∈ks->t.ok
 |u::r,t,ho,h=>by
  rw[Tr.oks] at ho
  rcases List.mem_cons.1 h with e|h
  ·subst e;exact ho.1
  ·exact Tr.oks_mem ho.2 h
theorem maxLen_eq:maxLen=9223372036854775807:=by decide
theorem Tr.okX{a b c d e ks}(h:(Tr.mk a b c d e ks).ok):okX ⟨a,b,c,d,e,Tr.toKs ks⟩:=by
 rw[Tr.ok] at h
 exact⟨h.2.1,h.2.2.1.1,h.2.2.1.2,by rw[show(Tr.toKs ks).length=ks.length from Tr.toKs_len ks];exact h.2.2.2.2.2.2⟩
theorem Tr.okks{a b c d e ks}(h:(Tr.mk a b c d e ks).ok):Tr.oks ks/\ks.length<=9223372036854775807:=by
 rw[Tr.ok,maxLen_eq] at h
 exact⟨h.2.2.2.2.2.1,h.2.2.2.2.2.2⟩
theorem Tr.cnt_mem:∀{ks:List Tr} {t:Tr},t∈ks->t.cnt<=Tr.cnts ks
 |u::r,t,h=>by
  rw[Tr.cnts]
  rcases List.mem_cons.1 h with e|h
  ·subst e;omega
  ·have:=Tr.cnt_mem h;omega
theorem cnt_pos(t:Tr):1<=t.cnt:=by cases t;rw[Tr.cnt];omega
theorem len_cnts:∀ks:List Tr,ks.length<=Tr.cnts ks
 |[]=>by simp[Tr.cnts]
 |t::r=>by rw[Tr.cnts];have:=len_cnts r;have:=cnt_pos t;simp;omega
theorem M87_tr:∀t:Tr,t.ok->∀F,t.fu<=F->M87 F t.toT=some t.flt:=Tr.ind fun a b c d e ks ih ok F hF=>by
 rw[Tr.fu] at hF
 obtain⟨F,rfl⟩:∃G,F=G+1:=⟨F - 1,by omega⟩
 show M87_B (M87 F) F (Tr.mk a b c d e ks).toT=_
 rw[Tr.toT,M87_B_eq F _ _ (Tr.okX ok),Tr.flt]
 have hl:∀l:List Tr,(∀t,t∈l->t∈ks)->M87_L1 (M87 F) F (some 0) (Tr.toKs l)=some (Tr.flts l):=by
  intro l
  induction l with
  |nil=>intro _;simp only[Tr.toKs,M87_L1,Tr.flts]
  |cons t r ihr=>
   intro hm
   have ht:=hm t (by simp)
   rw[Tr.toKs_map,List.map_cons,M87_L1,Tr.dec,Option.bind_some,ih t ht (Tr.oks_mem (Tr.okks ok).1 ht) F (by have:=Tr.fu_mem ht;omega),Option.bind_some,<-Tr.toKs_map,ihr fun u hu=>hm u (by simp[hu]),Tr.flts]
   by_cases h0:t.flt=0<;>simp[h0]
 rw[hl ks fun _ h=>h]
 by_cases h0:nodeV ⟨a,b,c,d,e,Tr.toKs ks⟩=0
 ·simp[h0]
 ·rw[if_neg h0,if_pos (by simp[h0])]
theorem M86_tr:∀t:Tr,t.ok->∀F,t.fu<=F->∀lvl:Int,1<=lvl->lvl<=13->∃a b:Int,M86 F t.toT lvl=some (a,b)/\1<=a/\a<=61/\lvl<=b/\b<=13/\(12<b<->12<lvl+t.dep - 1)/\(b<=12->a=min (t.cnt:Int) 61):=Tr.ind fun a b c d e ks ih ok F hF lvl h1 h13=>by
 rw[Tr.fu] at hF
 obtain⟨F,rfl⟩:∃G,F=G+1:=⟨F - 1,by omega⟩
 show ∃p q:Int,M86_B (M86 F) F (Tr.mk a b c d e ks).toT lvl=some (p,q)/\_
 rw[Tr.toT,M86_B,Tr.dep,Tr.cnt]
 by_cases hq:lvl>12
 ·rw[if_pos (decide_eq_true hq)]
  exact⟨1,lvl,rfl,by omega,by omega,by omega,by omega,by omega,by omega⟩
 ·rw[if_neg (by simpa using hq),jn_def]
  have hl:∀l:List Tr,(∀t,t∈l->t∈ks)->∀n q:Int,1<=n->n<=61->lvl<=q->q<=13->∃p r:Int,M86_L1 (M86 F) F lvl (fun n5 n6=>some (n5,n6)) (Tr.toKs l) n q=some (p,r)/\1<=p/\p<=61/\lvl<=r/\r<=13/\(12<r<->12<q\/12<lvl+Tr.deps l)/\(r<=12->p=min (n+(Tr.cnts l:Nat)) 61):=by
   intro l
   induction l with
   |nil=>
    intro _ n q g1 g2 g3 g4
    refine⟨n,q,by simp only[Tr.toKs,M86_L1],g1,g2,g3,g4,?_,?_⟩
    ·rw[Tr.deps];omega
    ·rw[Tr.cnts];omega
   |cons t r ihr=>
    intro hm n q g1 g2 g3 g4
    have ht:=hm t (by simp)
    obtain⟨p',q',e1,e2,e3,e4,e5,e6,e7⟩:=ih t ht (Tr.oks_mem (Tr.okks ok).1 ht) F (by have:=Tr.fu_mem ht;omega) (lvl+1) (by omega) (by omega)
    rw[Tr.toKs_map,List.map_cons,M86_L1,Tr.dec,Option.bind_some,w64_id (by omega) (by omega),e1,Option.bind_some,<-Tr.toKs_map]
    dsimp only
    rw[w64_id (by omega) (by omega)]
    obtain⟨p,s,f1,f2,f3,f4,f5,f6,f7⟩:=ihr (fun u hu=>hm u (by simp[hu])) (if 61<n+p' then 61 else n+p') (if q'>q then q' else q) (by split<;>omega) (by split<;>omega) (by split<;>omega) (by split<;>omega)
    refine⟨p,s,f1,f2,f3,f4,f5,?_,?_⟩
    ·rw[f6,Tr.deps]
     split<;>omega
    ·intro hs
     have h7:=f7 hs
     have hq':¬12<s:=by omega
     rw[f6] at hq'
     have:q'<=12:=by split at hq'<;>omega
     have h8:=e7 this
     rw[h7,Tr.cnts]
     split<;>omega
  obtain⟨p,r,e1,e2,e3,e4,e5,e6,e7⟩:=hl ks (fun _ h=>h) 1 lvl (by omega) (by omega) (by omega) (by omega)
  refine⟨p,r,e1,e2,e3,e4,e5,?_,?_⟩
  ·rw[e6];omega
  ·intro h;rw[e7 h];omega
noncomputable def vT(t:Tr):Int:=if 60<t.cnt\/12<t.dep then 3 else t.flt
theorem M30_tr(t:Tr)(ok:t.ok)(F:Nat)(hF:t.fu<=F):M30 F t.toT=some (vT t):=by
 obtain⟨a,b,e1,e2,e3,e4,e5,e6,e7⟩:=M86_tr t ok F hF 1 (by omega) (by omega)
 unfold M30
 rw[e1,Option.bind_some]
 dsimp only
 unfold vT
 by_cases hb:12<b
 ·have hd:=e6.1 hb
  rw[if_pos (show 60<t.cnt\/12<t.dep by omega),if_pos (show decide (b>12)=true from decide_eq_true (by omega))]
  by_cases ha:a>60<;>simp[ha]
 ·have h7:=e7 (by omega)
  have hd:¬(12<t.dep):=fun h=>hb (e6.2 (by omega))
  by_cases hc:60<t.cnt
  ·rw[if_pos (decide_eq_true (by omega)),if_pos (Or.inl hc)]
  ·rw[if_neg (by simp;omega),if_neg (by simp;omega),if_neg (by omega),M87_tr t ok F hF];rfl
end Go.Proofs.YtelmfadihfcgnaaGreatDoor
namespace Go.Proofs.YtelmfadihfcgnaaGreatDoor
open Go Go.Pv
set_option linter.unusedVariables false
set_option linter.unusedSimpArgs false
set_option maxRecDepth 100000
def okTFact'(f:TFact):Prop:=okS f.Kind/\okS f.Subject/\(∀p,p∈f.Texts->okS p.Name/\okS p.Value)/\f.Texts.length<=maxLen/\(∀p,p∈f.Numbers->okS p.Name)/\f.Numbers.length<=maxLen
def leN(a b:List UInt8):Bool:=Op.bytesLess a b||a==b
def tcF(a:List TPair):List TPair->Nat->Int
 |[],_=>0
 |x::l,n=>if nameB x.Name=false then 8 else if valB x.Value=false then 2 else if (decide (0<n)&&leN x.Name (a.getD (n - 1) ⟨[],[]⟩).Name)=true then 10 else tcF a l (n+1)
def ncF(a:List TAmount):List TAmount->Nat->Int
 |[],_=>0
 |x::l,n=>if nameB x.Name=false then 8 else if outN x.N=true then 9 else if (decide (0<n)&&leN x.Name (a.getD (n - 1) ⟨[],0⟩).Name)=true then 10 else ncF a l (n+1)
theorem drop_cons{α:Type}{a:List α}{x:α}{l:List α}{n:Nat}(h:a.drop n=x::l):n<a.length/\idx a (n:Int)=some x/\x∈a/\a.drop (n+1)=l:=by
 have hn:n<a.length:=by
  rcases Nat.lt_or_ge n a.length with h2|h2
  ·exact h2
  ·rw[List.drop_eq_nil_of_le h2] at h;cases h
 rw[List.drop_eq_getElem_cons hn] at h
 injection h with hx hd
 exact⟨hn,by rw[idx_nat hn,hx],hx ▸ List.getElem_mem _,hd⟩
theorem M43_L1_eq(F:Nat)(f:TFact)(hf:okTFact' f)(k:Option Int):∀(l:List TPair) (n:Nat),f.Texts.drop n=l->M43_L1 F f k l (n:Int)=if tcF f.Texts l n=0 then k else some (tcF f.Texts l n)
 |[],n,_=>by simp[M43_L1,tcF]
 |x::l,n,h=>by
  obtain⟨hn,hi,hm,hd⟩:=drop_cons h
  have hx:=hf.2.2.1 x hm
  rw[M43_L1,M31_eq F _ hx.1,Option.bind_some,jn_def,show((n:Int)+1)=((n+1:Nat):Int) from rfl,M43_L1_eq F f hf k l (n+1) hd,M105_eq F _ hx.2,tcF]
  cases nameB x.Name
  ·simp
  ·simp only[Bool.not_true,Bool.false_eq_true,if_false,Option.bind_some]
   cases valB x.Value
   ·simp
   ·simp only[Bool.not_true,Bool.false_eq_true,if_false]
    by_cases h0:0<n
    ·rw[if_pos (decide_eq_true (by omega)),idx_prev (d:=⟨[],[]⟩) h0 (by omega) hf.2.2.2.1,Option.bind_some,decide_eq_true h0]
     simp only[Bool.true_and,leN]
     cases (Op.bytesLess x.Name (f.Texts.getD (n - 1) ⟨[],[]⟩).Name||x.Name==(f.Texts.getD (n - 1) ⟨[],[]⟩).Name)<;>simp
    ·rw[if_neg (by simp;omega),decide_eq_false h0];simp
theorem M43_L2_eq(F:Nat)(f:TFact)(hf:okTFact' f)(k:Option Int):∀(l:List TAmount) (n:Nat),f.Numbers.drop n=l->M43_L2 F f k l (n:Int)=if ncF f.Numbers l n=0 then k else some (ncF f.Numbers l n)
 |[],n,_=>by simp[M43_L2,ncF]
 |x::l,n,h=>by
  obtain⟨hn,hi,hm,hd⟩:=drop_cons h
  have hx:=hf.2.2.2.2.1 x hm
  rw[M43_L2,M31_eq F _ hx,Option.bind_some,jn_def,show((n:Int)+1)=((n+1:Nat):Int) from rfl,M43_L2_eq F f hf k l (n+1) hd,M106_N,ncF]
  cases nameB x.Name
  ·simp
  ·simp only[Bool.not_true,Bool.false_eq_true,if_false,Option.bind_some]
   cases outN x.N
   ·simp only[Bool.not_true,Bool.not_false,Bool.false_eq_true,if_false]
    by_cases h0:0<n
    ·rw[if_pos (decide_eq_true (by omega)),idx_prev (d:=⟨[],0⟩) h0 (by omega) hf.2.2.2.2.2,Option.bind_some,decide_eq_true h0]
     simp only[Bool.true_and,leN]
     cases (Op.bytesLess x.Name (f.Numbers.getD (n - 1) ⟨[],0⟩).Name||x.Name==(f.Numbers.getD (n - 1) ⟨[],0⟩).Name)<;>simp
    ·rw[if_neg (by simp;omega),decide_eq_false h0];simp
   ·simp
def vF(f:TFact):Int:=if nameB f.Kind=false then 8 else if valB f.Subject=false then 2 else if 30<f.Texts.length then 3 else if tcF f.Texts f.Texts 0=0 then (if 30<f.Numbers.length then 3 else ncF f.Numbers f.Numbers 0) else tcF f.Texts f.Texts 0
theorem M43_eq(F:Nat)(f:TFact)(hf:okTFact' f):M43 F f=some (vF f):=by
 unfold M43 vF
 have h1:=fun k=>M43_L1_eq F f hf k f.Texts 0 rfl
 have h2:=M43_L2_eq F f hf (some 0) f.Numbers 0 rfl
 rw[show((0:Nat):Int)=0 from rfl] at h1 h2
 rw[M31_eq F _ hf.1,M105_eq F _ hf.2.1]
 simp only[jn_def,h1,h2,Option.bind_some,show decide (((f.Texts.length:Nat):Int)>30)=decide (30<f.Texts.length) from decide_eq_decide.2 (by omega),show decide (((f.Numbers.length:Nat):Int)>30)=decide (30<f.Numbers.length) from decide_eq_decide.2 (by omega)]
 by_cases a1:nameB f.Kind=true<;>by_cases a2:valB f.Subject=true<;>by_cases a3:30<f.Texts.length<;>by_cases a4:tcF f.Texts f.Texts 0=0<;>by_cases a5:30<f.Numbers.length<;>by_cases a6:ncF f.Numbers f.Numbers 0=0<;>simp[a1,a2,a3,a4,a5,a6]
def fT(nm:List UInt8):List TPair->Bool×List UInt8->Bool×List UInt8
 |[],p=>p
 |x::l,p=>if (x.Name==nm)=true then fT nm l (true,x.Value) else fT nm l p
def fN(nm:List UInt8):List TAmount->Bool×Int->Bool×Int
 |[],p=>p
 |x::l,p=>if (x.Name==nm)=true then fN nm l (true,x.N) else fN nm l p
def fld(f:TFact)(nm:List UInt8):Tprovenderref9_field:=⟨(fT nm f.Texts (false,[])).1,(fN nm f.Numbers (false,0)).1,(fT nm f.Texts (false,[])).2,(fN nm f.Numbers (false,0)).2⟩
def zV:Tpolicy_value:=⟨false,false,[],0⟩
def gV(m:List (List UInt8×Tpolicy_value))(nm:List UInt8):Tpolicy_value:=(mget m nm).getD zV
def vlT:List TPair->List (List UInt8×Tpolicy_value)->List (List UInt8×Tpolicy_value)
 |[],m=>m
 |x::l,m=>vlT l (mput m x.Name ⟨true,(gV m x.Name).hasNumber,x.Value,(gV m x.Name).number⟩)
def vlN:List TAmount->List (List UInt8×Tpolicy_value)->List (List UInt8×Tpolicy_value)
 |[],m=>m
 |x::l,m=>vlN l (mput m x.Name ⟨(gV m x.Name).hasText,true,(gV m x.Name).text,x.N⟩)
def vals(f:TFact):Tpolicy_values:=⟨vlN f.Numbers (vlT f.Texts []),none⟩
theorem gV_put(m:List (List UInt8×Tpolicy_value))(k nm:List UInt8)(v:Tpolicy_value):gV (mput m k v) nm=if k=nm then v else gV m nm:=by
 unfold gV;rw[mget_mput];split<;>rfl
theorem vlT_get(nm:List UInt8):∀(l:List TPair) (m:List (List UInt8×Tpolicy_value)),gV (vlT l m) nm=⟨(fT nm l ((gV m nm).hasText,(gV m nm).text)).1,(gV m nm).hasNumber,(fT nm l ((gV m nm).hasText,(gV m nm).text)).2,(gV m nm).number⟩
 |[],m=>by rw[vlT,fT]
 |x::l,m=>by
  rw[vlT,vlT_get nm l,gV_put,fT]
  by_cases h:x.Name=nm
  ·subst h;rw[if_pos rfl,if_pos (by simp)]
  ·rw[if_neg h,if_neg (by simp[h])]
theorem vlN_get(nm:List UInt8):∀(l:List TAmount) (m:List (List UInt8×Tpolicy_value)),gV (vlN l m) nm=⟨(gV m nm).hasText,(fN nm l ((gV m nm).hasNumber,(gV m nm).number)).1,(gV m nm).text,(fN nm l ((gV m nm).hasNumber,(gV m nm).number)).2⟩
 |[],m=>by rw[vlN,fN]
 |x::l,m=>by
  rw[vlN,vlN_get nm l,gV_put,fN]
  by_cases h:x.Name=nm
  ·subst h;rw[if_pos rfl,if_pos (by simp)]
  ·rw[if_neg h,if_neg (by simp[h])]
theorem vals_get(f:TFact)(nm:List UInt8):gV (vals f).by_ nm=⟨(fld f nm).isText,(fld f nm).isNumber,(fld f nm).text,(fld f nm).number⟩:=by
 unfold vals fld
 dsimp only
 rw[vlN_get,vlT_get]
 rfl
theorem M44_L1_eq(F:Nat)(k:List (List UInt8×Tpolicy_value)->Option Tpolicy_values):∀(l:List TPair) m,M44_L1 F k l m=k (vlT l m)
 |[],m=>rfl
 |x::l,m=>by rw[M44_L1,M44_L1_eq F k l];rfl
theorem M44_L2_eq(F:Nat)(k:List (List UInt8×Tpolicy_value)->Option Tpolicy_values):∀(l:List TAmount) m,M44_L2 F k l m=k (vlN l m)
 |[],m=>rfl
 |x::l,m=>by rw[M44_L2,M44_L2_eq F k l];rfl
theorem M44_eq(F:Nat)(f:TFact):M44 F f=some (vals f):=by
 unfold M44
 simp only[jn_def,M44_L1_eq,M44_L2_eq]
 rfl
end Go.Proofs.YtelmfadihfcgnaaGreatDoor
namespace Go.Proofs.YtelmfadihfcgnaaGreatDoor
open Go Go.Pv
set_option linter.unusedVariables false
set_option linter.unusedSimpArgs false
set_option maxRecDepth 100000
noncomputable section
mutual
def Tr.cd:Tr->KV
 | .mk k nm tx op n ks=>
  if k=2 then mkK 147 encTpolicy_condIs ⟨nm,tx⟩ else if k=3 then mkK 148 encTpolicy_condBegins ⟨nm,tx⟩ else if k=4 then mkK 150 encTpolicy_condHas ⟨nm⟩
  else if k=5 then mkK 152 encTpolicy_condNumber ⟨nm,op,n⟩ else if k=6 then mkK 154 encTpolicy_condNot ⟨(Tr.cds ks).headD ⟨0,.con (.bool true)⟩⟩ else if k=7 then mkK 156 encTpolicy_condAll ⟨Tr.cds ks⟩
  else if k=8 then mkK 157 encTpolicy_condAny ⟨Tr.cds ks⟩ else mkK 159 encTpolicy_condTrue ⟨⟩
def Tr.cds:List Tr->List KV
 |[]=>[]
 |t::r=>t.cd::Tr.cds r
end
end
theorem flts_mem:∀{ks:List Tr} {t:Tr},Tr.flts ks=0->t∈ks->t.flt=0
 |u::r,t,h,hm=>by
  rw[Tr.flts] at h
  by_cases h0:u.flt=0
  ·rw[if_pos h0] at h
   rcases List.mem_cons.1 hm with e|hm
   ·rw[e];exact h0
   ·exact flts_mem h hm
  ·rw[if_neg h0] at h;exact absurd h h0
theorem flt_zero{a b c d e ks}(h:(Tr.mk a b c d e ks).flt=0):nodeV ⟨a,b,c,d,e,Tr.toKs ks⟩=0/\Tr.flts ks=0:=by
 rw[Tr.flt] at h
 by_cases h0:nodeV ⟨a,b,c,d,e,Tr.toKs ks⟩=0
 ·rw[if_pos h0] at h;exact⟨h0,h⟩
 ·rw[if_neg h0] at h;exact absurd h h0
theorem node_kind{x:TTest}(h:nodeV x=0):1<=x.Kind/\x.Kind<=8:=by
 unfold nodeV at h
 by_cases hk:x.Kind<1\/8<x.Kind
 ·rw[if_pos hk] at h;cases h
 ·omega
theorem node_not{x:TTest}(h:nodeV x=0)(h6:x.Kind=6):x.Kids.length=1:=by
 unfold nodeV at h
 rw[if_neg (by omega)] at h
 by_cases h1:x.Kids.length=1
 ·exact h1
 ·have:(x.Kids.length==1)=false:=beq_false_of_ne h1
  rw[if_pos h6,this] at h
  simp at h
theorem M32_tr:∀t:Tr,t.ok->t.flt=0->t.cnt<=60->∀F,t.fu<=F->M32 F t.toT=some t.cd:=Tr.ind fun k nm tx op n ks ih ok hz hc F hF=>by
 rw[Tr.fu] at hF
 rw[Tr.cnt] at hc
 obtain⟨hnode,hfl⟩:=flt_zero hz
 obtain⟨F,rfl⟩:∃G,F=G+1:=⟨F - 1,by omega⟩
 show M32_B (M32 F) F (Tr.mk k nm tx op n ks).toT=_
 have hl:∀(kk:List KV->Option KV) (l:List Tr),(∀t,t∈l->t∈ks)->∀acc:List KV,acc.length+l.length<=60->M32_L1 (M32 F) F kk (Tr.toKs l) acc=kk (acc++Tr.cds l):=by
  intro kk l
  induction l with
  |nil=>intro _ acc _;simp only[Tr.toKs,M32_L1,Tr.cds,List.append_nil]
  |cons t r ihr=>
   intro hm acc hlen
   simp only[List.length_cons] at hlen
   have ht:=hm t (by simp)
   rw[Tr.toKs_map,List.map_cons,M32_L1,Tr.dec,Option.bind_some,ih t ht (Tr.oks_mem (Tr.okks ok).1 ht) (flts_mem hfl ht) (by have:=Tr.cnt_mem ht;omega) F (by have:=Tr.fu_mem ht;omega),Option.bind_some,<-Tr.toKs_map,
    if_pos (by simp;omega),ihr (fun u hu=>hm u (by simp[hu])) _ (by simp;omega),Tr.cds]
   simp
 have hlen:=len_cnts ks
 rw[Tr.toT,M32_B,jn_def,hl _ ks (fun _ h=>h) [] (by simp;omega),Tr.cd,List.nil_append]
 dsimp only
 have b1:∀q:Int,((k==q)=true)<->k=q:=fun q=>beq_iff_eq
 simp only[b1]
 by_cases h2:k=2
 ·rw[if_pos h2,if_pos h2]
 rw[if_neg h2,if_neg h2]
 by_cases h2:k=3
 ·rw[if_pos h2,if_pos h2]
 rw[if_neg h2,if_neg h2]
 by_cases h2:k=4
 ·rw[if_pos h2,if_pos h2]
 rw[if_neg h2,if_neg h2]
 by_cases h2:k=5
 ·rw[if_pos h2,if_pos h2]
 rw[if_neg h2,if_neg h2]
 by_cases h2:k=6
 ·rw[if_pos h2,if_pos h2]
  have h1:ks.length=1:=by rw[<-node_not hnode h2];exact(Tr.toKs_len ks).symm
  match ks,h1 with
  |[t],_=>simp only[Tr.cds];rfl
 rw[if_neg h2,if_neg h2]
 by_cases h2:k=7
 ·rw[if_pos h2,if_pos h2]
 rw[if_neg h2,if_neg h2]
 by_cases h2:k=8
 ·rw[if_pos h2,if_pos h2]
 rw[if_neg h2,if_neg h2]
def beg(s w:List UInt8):Bool:=decide (w.length<=s.length)&&(s.take w.length==w)
def cmpO(a op b:Int):Bool:=if op=1 then decide (a<b) else if op=2 then decide (a<=b) else if op=3 then a==b else if op=4 then decide (a>=b) else decide (a>b)
def txT(k:Int)(s:List UInt8)(l:List (List UInt8)):Bool:=l.any fun w=>w==s||(k==3)&&beg s w
def oneB(k op n:Int)(tx:List (List UInt8))(x:Tprovenderref9_field):Bool:=if k=4 then x.isText||x.isNumber else if k=5 then x.isNumber&&cmpO x.number op n else x.isText&&txT k x.text tx
noncomputable section
mutual
def Tr.tru(f:TFact):Tr->Bool
 | .mk k nm tx op n ks=>if k=1 then true else if k=6 then !(Tr.allT f ks) else if k=7 then Tr.allT f ks else if k=8 then Tr.anyT f ks else oneB k op n tx (fld f nm)
def Tr.allT(f:TFact):List Tr->Bool
 |[]=>true
 |t::r=>Tr.tru f t&&Tr.allT f r
def Tr.anyT(f:TFact):List Tr->Bool
 |[]=>false
 |t::r=>Tr.tru f t||Tr.anyT f r
end
end
theorem M287_eq(F:Nat)(a op b:Int):M287 F a op b=some (cmpO a op b):=by
 unfold M287 cmpO
 simp only[beq_iff_eq]
 repeat (split;· rfl)
 rfl
theorem M190_eq(F:Nat)(s w:List UInt8):M190 F s w=some (beg s w):=by
 unfold M190 beg
 by_cases h:w.length<=s.length
 ·rw[if_pos (decide_eq_true (by omega)),if_pos ⟨by omega,by omega⟩,decide_eq_true h,show((w.length:Int)).toNat=w.length by omega];rfl
 ·rw[if_neg (by simp;omega),decide_eq_false h];rfl
theorem M138_eq(F:Nat)(s w:List UInt8):M138 F s w=some (beg s w):=by unfold M138;rw[M190_eq];rfl
end Go.Proofs.YtelmfadihfcgnaaGreatDoor
namespace Go.Proofs.YtelmfadihfcgnaaGreatDoor
open Go Go.Pv
set_option linter.unusedVariables false
set_option linter.unusedSimpArgs false
set_option maxRecDepth 100000
section
variable{τ σ:Type}
theorem vdec_mk{enc:τ->List V}(inj:∀a b,enc a=enc b->a=b){T:Nat}{y:τ}:vdec enc T (mkK T enc y)=some y:=vdec_eq inj rfl rfl
theorem vdec_mkne{enc:τ->List V}{enc':σ->List V}{T T':Nat}{y:τ}(h:T≠T'):vdec enc' T' (mkK T enc y)=none:=vdec_ne (x:=mkK T enc y) h
end
theorem iV_inj{a b:Int}(h:iV a=iV b):a=b:=by injection h with h;injection h
theorem inj_Is(a b:Tpolicy_condIs)(h:encTpolicy_condIs a=encTpolicy_condIs b):a=b:=by
 obtain⟨a1,a2⟩:=a;obtain⟨b1,b2⟩:=b
 simp only[encTpolicy_condIs,List.cons.injEq,and_true] at h
 have e1:=sV_inj h.1
 have e2:a2=b2:=mapS_inj (by injection h.2)
 subst e1 e2;rfl
theorem inj_Begins(a b:Tpolicy_condBegins)(h:encTpolicy_condBegins a=encTpolicy_condBegins b):a=b:=by
 obtain⟨a1,a2⟩:=a;obtain⟨b1,b2⟩:=b
 simp only[encTpolicy_condBegins,List.cons.injEq,and_true] at h
 have e1:=sV_inj h.1
 have e2:a2=b2:=mapS_inj (by injection h.2)
 subst e1 e2;rfl
theorem inj_Has(a b:Tpolicy_condHas)(h:encTpolicy_condHas a=encTpolicy_condHas b):a=b:=by
 obtain⟨a1⟩:=a;obtain⟨b1⟩:=b
 simp only[encTpolicy_condHas,List.cons.injEq,and_true] at h
 have e1:=sV_inj h
 subst e1;rfl
theorem inj_Number(a b:Tpolicy_condNumber)(h:encTpolicy_condNumber a=encTpolicy_condNumber b):a=b:=by
 obtain⟨a1,a2,a3⟩:=a;obtain⟨b1,b2,b3⟩:=b
 simp only[encTpolicy_condNumber,List.cons.injEq,and_true] at h
 have e1:=sV_inj h.1
 have e2:=iV_inj h.2.1
 have e3:=iV_inj h.2.2
 subst e1 e2 e3;rfl
theorem KV.enc_inj{a b:KV}(h:a.enc=b.enc):a=b:=by
 obtain⟨a1,a2⟩:=a;obtain⟨b1,b2⟩:=b
 simp only[KV.enc,List.cons.injEq,and_true] at h
 injection h with h1 h2
 subst h1 h2;rfl
theorem mapV_inj{a b:List KV}(h:a.map KV.enc=b.map KV.enc):a=b:=List.map_inj_right (fun x y h=>KV.enc_inj h) |>.1 h
theorem inj_Not(a b:Tpolicy_condNot)(h:encTpolicy_condNot a=encTpolicy_condNot b):a=b:=by
 obtain⟨a1⟩:=a;obtain⟨b1⟩:=b
 have e1:a1=b1:=KV.enc_inj h
 subst e1;rfl
theorem inj_All(a b:Tpolicy_condAll)(h:encTpolicy_condAll a=encTpolicy_condAll b):a=b:=by
 obtain⟨a1⟩:=a;obtain⟨b1⟩:=b
 simp only[encTpolicy_condAll,List.cons.injEq,and_true] at h
 have e1:a1=b1:=mapV_inj (by injection h)
 subst e1;rfl
theorem inj_Any(a b:Tpolicy_condAny)(h:encTpolicy_condAny a=encTpolicy_condAny b):a=b:=by
 obtain⟨a1⟩:=a;obtain⟨b1⟩:=b
 simp only[encTpolicy_condAny,List.cons.injEq,and_true] at h
 have e1:a1=b1:=mapV_inj (by injection h)
 subst e1;rfl
theorem inj_True(a b:Tpolicy_condTrue)(h:encTpolicy_condTrue a=encTpolicy_condTrue b):a=b:=rfl
def tv(b:Bool):Int:=if b=true then 1 else 2
theorem M72_eq(F:Nat)(b:Bool):M72 F b=some (tv b):=by cases b<;>rfl
theorem anyGe{p:Bool}{n:Nat}:(if p=true then some ((n:Nat):Int) else some (-1)).bind (fun y3:Int=>some (decide (y3>=0)))=some p:=by
 cases p
 ·rfl
 ·simp
theorem M74_eq(F:Nat)(l:List (List UInt8))(s:List UInt8):M74 F l s=some (l.any fun w=>s==w):=by
 unfold M74 M121
 have h:=idxL (g:=M121_L1 F s (some (-1))) (fun w=>s==w) (fun _=>rfl) (fun x l n=>by rw[M121_L1]) l 0
 rw[show((0:Nat):Int)=0 from rfl] at h
 rw[jn_def,h]
 exact anyGe
theorem M237_1_eq(F:Nat)(l:List (List UInt8))(b c:Bool)(s:List UInt8)(n:Int):M237_1 F l b c s n=some (l.any fun w=>beg s w):=by
 unfold M237_1 M247_1
 have h:=idxL (g:=M247_1_L1 F b c s n (some (-1))) (fun w=>beg s w) (fun _=>rfl) (fun x l m=>by rw[M247_1_L1,M284,M138_eq,Option.bind_some,Option.bind_some]) l 0
 rw[show((0:Nat):Int)=0 from rfl] at h
 rw[jn_def,h]
 exact anyGe
theorem beg_self(s:List UInt8):beg s s=true:=by simp[beg]
theorem txT3(s:List UInt8)(l:List (List UInt8)):txT 3 s l=l.any fun w=>beg s w:=by
 unfold txT
 congr 1
 funext w
 by_cases h:w=s
 ·subst h;simp[beg_self]
 ·rw[beq_false_of_ne h];rfl
theorem txT2(s:List UInt8)(l:List (List UInt8)):txT 2 s l=l.any fun w=>s==w:=by
 unfold txT
 congr 1
 funext w
 rw[beqC];simp
section
variable(F:Nat)(f:TFact)(nm:List UInt8)
theorem M281_eq:M281 F (vals f) nm=some (⟨(fld f nm).isText,(fld f nm).isNumber,(fld f nm).text,(fld f nm).number⟩,true):=by
 rw[<-vals_get];rfl
theorem M282_eq(op n:Int)(tx:List (List UInt8)):M282 F ⟨nm,tx⟩ (vals f)=some (tv (oneB 2 op n tx (fld f nm))):=by
 unfold M282
 rw[M281_eq,Option.bind_some]
 dsimp only
 rw[M74_eq,M72_eq,Option.bind_some,M72_eq]
 unfold oneB
 rw[txT2]
 cases (fld f nm).isText<;>rfl
theorem M283_eq(op n:Int)(tx:List (List UInt8)):M283 F ⟨nm,tx⟩ (vals f)=some (tv (oneB 3 op n tx (fld f nm))):=by
 unfold M283
 rw[M281_eq,Option.bind_some]
 dsimp only
 rw[M237_1_eq,M72_eq,Option.bind_some,M72_eq]
 unfold oneB
 rw[txT3]
 cases (fld f nm).isText<;>rfl
theorem M285_eq(op n:Int)(tx:List (List UInt8)):M285 F ⟨nm⟩ (vals f)=some (tv (oneB 4 op n tx (fld f nm))):=by
 unfold M285
 rw[M281_eq,Option.bind_some]
 dsimp only
 rw[M72_eq,M72_eq]
 unfold oneB
 cases (fld f nm).isText<;>rfl
theorem M286_eq(op n:Int)(tx:List (List UInt8)):M286 F ⟨nm,op,n⟩ (vals f)=some (tv (oneB 5 op n tx (fld f nm))):=by
 unfold M286
 rw[M281_eq,Option.bind_some]
 dsimp only
 rw[M287_eq,M72_eq,Option.bind_some,M72_eq]
 unfold oneB
 cases (fld f nm).isNumber<;>rfl
end
theorem hold_tr(f:TFact):∀t:Tr,t.ok->t.flt=0->∀F,t.fu<=F->Miholds F t.cd (vals f)=some (tv (t.tru f)):=Tr.ind fun k nm tx op n ks ih ok hz F hF=>by
 rw[Tr.fu] at hF
 obtain⟨hnode,hfl⟩:=flt_zero hz
 obtain⟨F,rfl⟩:∃G,F=G+1:=⟨F - 1,by omega⟩
 show Miholds_B (Miholds F) F (Tr.mk k nm tx op n ks).cd (vals f)=_
 have hkid:∀t,t∈ks->Miholds F t.cd (vals f)=some (tv (t.tru f)):=fun t ht=>ih t ht (Tr.oks_mem (Tr.okks ok).1 ht) (flts_mem hfl ht) F (by have:=Tr.fu_mem ht;omega)
 have hkk:=node_kind hnode
 dsimp only at hkk
 have hk':k=1\/k=2\/k=3\/k=4\/k=5\/k=6\/k=7\/k=8:=by omega
 rw[Tr.cd,Tr.tru]
 have hall:∀l:List Tr,(∀t,t∈l->t∈ks)->M289_L1 (Miholds F) F (vals f) (fun n4=>some n4) (Tr.cds l) 1=some (tv (Tr.allT f l)):=by
  intro l
  induction l with
  |nil=>intro _;rw[Tr.cds,Tr.allT];rfl
  |cons t r ihr=>
   intro hm
   rw[Tr.cds,M289_L1,hkid t (hm t (by simp)),Option.bind_some,jn_def,Tr.allT]
   cases t.tru f
   ·rfl
   ·exact ihr fun u hu=>hm u (by simp[hu])
 have hany:∀l:List Tr,(∀t,t∈l->t∈ks)->M290_L1 (Miholds F) F (vals f) (fun n4=>some n4) (Tr.cds l) 2=some (tv (Tr.anyT f l)):=by
  intro l
  induction l with
  |nil=>intro _;rw[Tr.cds,Tr.anyT];rfl
  |cons t r ihr=>
   intro hm
   rw[Tr.cds,M290_L1,hkid t (hm t (by simp)),Option.bind_some,jn_def,Tr.anyT]
   cases t.tru f
   ·exact ihr fun u hu=>hm u (by simp[hu])
   ·rfl
 unfold Miholds_B
 rcases hk' with e|e|e|e|e|e|e|e
 ·subst e
  simp only[show ¬(1:Int)=2 by decide,show ¬(1:Int)=3 by decide,show ¬(1:Int)=4 by decide,show ¬(1:Int)=5 by decide,show ¬(1:Int)=6 by decide,show ¬(1:Int)=7 by decide,show ¬(1:Int)=8 by decide,if_false]
  rw[vdec_mkne (by decide),vdec_mkne (by decide),vdec_mkne (by decide),vdec_mkne (by decide),vdec_mkne (by decide),vdec_mkne (by decide),vdec_mkne (by decide),vdec_mk inj_True]
  rfl
 ·subst e
  rw[if_pos rfl,vdec_mk inj_Is]
  exact M282_eq F f nm op n tx
 ·subst e
  rw[if_neg (by decide),if_pos rfl,vdec_mkne (by decide),vdec_mk inj_Begins]
  exact M283_eq F f nm op n tx
 ·subst e
  rw[if_neg (by decide),if_neg (by decide),if_pos rfl,vdec_mkne (by decide),vdec_mkne (by decide),vdec_mk inj_Has]
  exact M285_eq F f nm op n tx
 ·subst e
  rw[if_neg (by decide),if_neg (by decide),if_neg (by decide),if_pos rfl,vdec_mkne (by decide),vdec_mkne (by decide),vdec_mkne (by decide),vdec_mk inj_Number]
  exact M286_eq F f nm op n tx
 ·subst e
  rw[if_neg (by decide),if_neg (by decide),if_neg (by decide),if_neg (by decide),if_pos rfl,vdec_mkne (by decide),vdec_mkne (by decide),vdec_mkne (by decide),vdec_mkne (by decide),vdec_mk inj_Not]
  have h1:ks.length=1:=by rw[<-node_not hnode rfl];exact(Tr.toKs_len ks).symm
  match ks,h1,hkid with
  |[t],_,hkid=>
   show M288 (Miholds F) F ⟨(Tr.cds [t]).headD _⟩ (vals f)=_
   rw[Tr.cds,List.headD_cons,M288,hkid t (by simp),Option.bind_some,if_neg (by decide),if_pos rfl,Tr.allT,Tr.allT]
   cases t.tru f<;>rfl
 ·subst e
  rw[if_neg (by decide),if_neg (by decide),if_neg (by decide),if_neg (by decide),if_neg (by decide),if_pos rfl,vdec_mkne (by decide),vdec_mkne (by decide),vdec_mkne (by decide),vdec_mkne (by decide),vdec_mkne (by decide),vdec_mk inj_All]
  exact hall ks fun _ h=>h
 ·subst e
  rw[if_neg (by decide),if_neg (by decide),if_neg (by decide),if_neg (by decide),if_neg (by decide),if_neg (by decide),if_pos rfl,vdec_mkne (by decide),vdec_mkne (by decide),vdec_mkne (by decide),vdec_mkne (by decide),vdec_mkne (by decide),vdec_mkne (by decide),vdec_mk inj_Any]
  exact hany ks fun _ h=>h
theorem cd_t:∀t:Tr,t.cd.t∈([147,148,150,152,154,156,157,159]:List Nat)
 | .mk k nm tx op n ks=>by
  rw[Tr.cd]
  repeat (split;· simp[mkK])
  simp[mkK]
theorem vT_zero{t:Tr}(h:vT t=0):t.flt=0/\t.cnt<=60:=by
 unfold vT at h
 by_cases h0:60<t.cnt\/12<t.dep
 ·rw[if_pos h0] at h;cases h
 ·rw[if_neg h0] at h;exact⟨h,by omega⟩
end Go.Proofs.YtelmfadihfcgnaaGreatDoor
namespace Go.Pv
abbrev Txt:=List UInt8
structure SameT(is bg:List Txt)(u v:Txt):Prop where
 eq:∀e,e∈is->(u=e<->v=e)
 pre:∀b,b∈bg->(b <+: u<->b <+: v)
def okT(s:Txt):Prop:=s.length<=1000/\∀c,c∈s->32<=c.toNat/\c.toNat<=126
structure FreeOf(is bg:List Txt)(p t:Txt):Prop where
 pre:p <+: t
 ok:okT t
 not:t ∉ is
 no:∀b,b∈bg->p.length<b.length->¬b <+: t
theorem longest(bg:List Txt)(w:Txt):∃p,(p∈bg\/p=[])/\p <+: w/\∀b,b∈bg->b <+: w->b.length<=p.length:=by
 induction bg with
 |nil=>exact⟨[],.inr rfl,List.nil_prefix,fun b hb=>by simp at hb⟩
 |cons b r ih=>
  obtain⟨p,h1,h2,h3⟩:=ih
  by_cases h:b <+: w/\p.length<b.length
  ·refine⟨b,.inl (by simp),h.1,fun q hq hw=>?_⟩
   rcases List.mem_cons.1 hq with e|hq
   ·rw[e];exact Nat.le_refl _
   ·have:=h3 q hq hw;omega
  ·refine⟨p,h1.imp (fun h=>by simp[h]) id,h2,fun q hq hw=>?_⟩
   rcases List.mem_cons.1 hq with e|hq
   ·subst e
    rcases Nat.lt_or_ge p.length q.length with h4|h4
    ·exact absurd ⟨hw,h4⟩ h
    ·exact h4
   ·exact h3 q hq hw
theorem rep_text{is bg out:List Txt}(hi:∀e,e∈is->e∈out)(hf:∀p,(p∈bg\/p=[])->(∃t,FreeOf is bg p t/\t∈out)\/∀t,¬FreeOf is bg p t)(w:Txt)(hw:okT w):
  ∃t,t∈out/\SameT is bg t w:=by
 by_cases hm:w∈is
 ·exact⟨w,hi w hm,⟨fun _ _=>Iff.rfl,fun _ _=>Iff.rfl⟩⟩
 obtain⟨p,h1,h2,h3⟩:=longest bg w
 have hF:FreeOf is bg p w:=⟨h2,hw,hm,fun b hb hl hp=>by have:=h3 b hb hp;omega⟩
 rcases hf p h1 with ⟨t,ht,hto⟩|hno
 ·refine⟨t,hto,⟨fun e he=>⟨fun h=>absurd (h ▸ he) ht.not,fun h=>absurd (h ▸ he) hm⟩,fun b hb=>⟨fun hp=>?_,fun hp=>?_⟩⟩⟩
  ·have hl:b.length<=p.length:=Nat.le_of_not_lt fun h=>ht.no b hb h hp
   exact(List.prefix_of_prefix_length_le hp ht.pre hl).trans h2
  ·exact(List.prefix_of_prefix_length_le hp h2 (h3 b hb hp)).trans ht.pre
 ·exact absurd hF (hno w)
structure SameN(ns:List Int)(x y:Int):Prop where
 lt:∀n,n∈ns->(x<n<->y<n)
 eq:∀n,n∈ns->(x=n<->y=n)
def okN(x:Int):Prop:=-1000000000000<=x/\x<=1000000000000
theorem least(ns:List Int)(x:Int):(∃n,n∈ns/\x<=n/\∀m,m∈ns->x<=m->n<=m)\/∀n,n∈ns->n<x:=by
 induction ns with
 |nil=>exact .inr fun n h=>by simp at h
 |cons a r ih=>
  rcases ih with ⟨n,h1,h2,h3⟩|h
  ·by_cases h:x<=a/\a<n
   ·refine .inl ⟨a,by simp,h.1,fun m hm hx=>?_⟩
    rcases List.mem_cons.1 hm with e|hm
    ·omega
    ·have:=h3 m hm hx;omega
   ·refine .inl ⟨n,by simp[h1],h2,fun m hm hx=>?_⟩
    rcases List.mem_cons.1 hm with e|hm
    ·omega
    ·exact h3 m hm hx
  ·by_cases hx:x<=a
   ·refine .inl ⟨a,by simp,hx,fun m hm hx=>?_⟩
    rcases List.mem_cons.1 hm with e|hm
    ·omega
    ·have:=h m hm;omega
   ·refine .inr fun n hn=>?_
    rcases List.mem_cons.1 hn with e|hn
    ·omega
    ·exact h n hn
theorem greatest(ns:List Int)(h:ns≠[]):∃m,m∈ns/\∀n,n∈ns->n<=m:=by
 induction ns with
 |nil=>exact absurd rfl h
 |cons a r ih=>
  by_cases hr:r=[]
  ·subst hr;exact⟨a,by simp,fun n hn=>by simp at hn;omega⟩
  ·obtain⟨m,h1,h2⟩:=ih hr
   by_cases hm:m<a
   ·refine⟨a,by simp,fun n hn=>?_⟩
    rcases List.mem_cons.1 hn with e|hn
    ·omega
    ·have:=h2 n hn;omega
   ·refine⟨m,by simp[h1],fun n hn=>?_⟩
    rcases List.mem_cons.1 hn with e|hn
    ·omega
    ·exact h2 n hn
theorem rep_num{ns out:List Int}(h0:∃z,z∈out)(h1:∀n,n∈ns->n∈out)(h2:∀n,n∈ns->okN (n - 1)->n - 1∈out)(h3:∀m,m∈ns->(∀n,n∈ns->n<=m)->okN (m+1)->m+1∈out)(hns:∀n,n∈ns->okN n)(x:Int)(hx:okN x):
  ∃y,y∈out/\SameN ns y x:=by
 rcases least ns x with ⟨n,a1,a2,a3⟩|h
 ·by_cases e:x=n
  ·exact⟨n,h1 n a1,by subst e;exact⟨fun _ _=>Iff.rfl,fun _ _=>Iff.rfl⟩⟩
  ·have hk:=hns n a1
   unfold okN at hk hx
   refine⟨n - 1,h2 n a1 ⟨by omega,by omega⟩,⟨fun m hm=>?_,fun m hm=>?_⟩⟩
   ·have:=a3 m hm;omega
   ·have:=a3 m hm;omega
 ·by_cases hn:ns=[]
  ·obtain⟨z,hz⟩:=h0
   exact⟨z,hz,by subst hn;exact⟨fun n h=>by simp at h,fun n h=>by simp at h⟩⟩
  ·obtain⟨m,b1,b2⟩:=greatest ns hn
   have b3:=h m b1
   have b4:=hns m b1
   unfold okN at hx b4
   refine⟨m+1,h3 m b1 b2 ⟨by omega,by omega⟩,⟨fun n hn=>?_,fun n hn=>?_⟩⟩
   ·have:=b2 n hn;have:=h n hn;omega
   ·have:=b2 n hn;have:=h n hn;omega
section
variable{α:Type}
def stl(s:Txt->Option α)(n:Txt)(x:α):Txt->Option α:=fun m=>if m=n then some x else s m
def ext(s s':Txt->Option α):Prop:=∀n x,s n=some x->s' n=some x
def with_(s:Txt->Option α)(ns:List Txt)(a:Txt->α):Txt->Option α:=fun m=>match s m with|some x=>some x|none=>if m∈ns then some (a m) else none
def fnd? (P:(Txt->Option α)->Option Bool) (can:Txt->List α):List Txt->(Txt->Option α)->Option (Txt->Option α)
 |[],s=>if P s=some true then some s else none
 |n::r,s=>match P s with
  |some true=>some s
  |some false=>none
  |none=>(can n).findSome? fun x=>fnd? P can r (stl s n x)
variable{P:(Txt->Option α)->Option Bool}{can:Txt->List α}
theorem stl_ext{s:Txt->Option α}{n:Txt}{x:α}(h:s n=none):ext s (stl s n x):=fun m y hm=>by
 unfold stl
 by_cases e:m=n
 ·subst e;rw[h] at hm;cases hm
 ·rw[if_neg e];exact hm
theorem fnd_sound:∀(ns:List Txt) (s s':Txt->Option α),ns.Nodup->(∀n,n∈ns->s n=none)->fnd? P can ns s=some s'->
  P s'=some true/\ext s s'/\∀m x,s' m=some x->s m=some x\/(m∈ns/\x∈can m)
 |[],s,s',_,_,h=>by
  rw[fnd?] at h
  by_cases hp:P s=some true
  ·rw[if_pos hp] at h;cases h;exact⟨hp,fun _ _ h=>h,fun _ _ h=>.inl h⟩
  ·rw[if_neg hp] at h;cases h
 |n::r,s,s',hn,hs,h=>by
  rw[fnd?] at h
  cases hp:P s with
  |some b=>
   rw[hp] at h
   cases b with
   |true=>cases h;exact⟨hp,fun _ _ h=>h,fun _ _ h=>.inl h⟩
   |false=>cases h
  |none=>
   rw[hp] at h
   obtain⟨x,hx,h2⟩:=List.exists_of_findSome?_eq_some h
   have hnn:=List.nodup_cons.1 hn
   obtain⟨g1,g2,g3⟩:=fnd_sound r (stl s n x) s' hnn.2 (fun m hm=>by
    unfold stl
    rw[if_neg (show ¬m=n from fun e=>hnn.1 (e ▸ hm))]
    exact hs m (by simp[hm])) h2
   refine⟨g1,fun m y hm=>g2 m y (stl_ext (hs n (by simp)) m y hm),fun m y hm=>?_⟩
   rcases g3 m y hm with h3|⟨h3,h4⟩
   ·unfold stl at h3
    by_cases e:m=n
    ·rw[if_pos e] at h3;cases h3;exact .inr ⟨by simp[e],by rw[e];exact hx⟩
    ·rw[if_neg e] at h3;exact .inl h3
   ·exact .inr ⟨by simp[h3],h4⟩
theorem with_stl{s:Txt->Option α}{n:Txt}{r:List Txt}{a:Txt->α}(h:s n=none):with_ (stl s n (a n)) r a=with_ s (n::r) a:=by
 funext m
 unfold with_ stl
 by_cases e:m=n
 ·subst e;rw[if_pos rfl,h];simp
 ·rw[if_neg e]
  cases s m with
  |some x=>rfl
  |none=>simp[e]
theorem with_nil{s:Txt->Option α}{a:Txt->α}:with_ s [] a=s:=by
 funext m
 unfold with_
 cases s m<;>simp
theorem with_ext{s:Txt->Option α}{ns:List Txt}{a:Txt->α}:ext s (with_ s ns a):=fun m x h=>by
 unfold with_;rw[h]
theorem fnd_none(hm:∀s s' b,ext s s'->P s=some b->P s'=some b):∀(ns:List Txt) (s:Txt->Option α),ns.Nodup->(∀n,n∈ns->s n=none)->fnd? P can ns s=none->
  ∀a:Txt->α,(∀n,n∈ns->a n∈can n)->P (with_ s ns a)≠some true
 |[],s,_,_,h,a,_=>by
  rw[fnd?] at h
  rw[with_nil]
  intro hp
  rw[if_pos hp] at h;cases h
 |n::r,s,hn,hs,h,a,ha=>by
  rw[fnd?] at h
  cases hp:P s with
  |some b=>
   rw[hp] at h
   cases b with
   |true=>cases h
   |false=>rw[hm s _ false with_ext hp];simp
  |none=>
   rw[hp] at h
   have hnn:=List.nodup_cons.1 hn
   have h2:=List.findSome?_eq_none_iff.1 h (a n) (ha n (by simp))
   have:=fnd_none hm r (stl s n (a n)) hnn.2 (fun m hmm=>by
    unfold stl
    rw[if_neg (show ¬m=n from fun e=>hnn.1 (e ▸ hmm))]
    exact hs m (by simp[hmm])) h2 a (fun m hmm=>ha m (by simp[hmm]))
   rwa [with_stl (hs n (by simp))] at this
end
end Go.Pv
namespace Go.Proofs.YtelmfadihfcgnaaGreatDoor
open Go Go.Pv
set_option linter.unusedVariables false
set_option linter.unusedSimpArgs false
set_option maxRecDepth 100000
abbrev Fd:=Tprovenderref9_field
def and3:Option Bool->Option Bool->Option Bool
 |some false,_=>some false
 |some true,b=>b
 |none,some false=>some false
 |none,_=>none
def or3:Option Bool->Option Bool->Option Bool
 |some true,_=>some true
 |some false,b=>b
 |none,some true=>some true
 |none,_=>none
structure Lf where
 k:Int
 nm:Txt
 tx:List Txt
 op:Int
 n:Int
def Lf.one(l:Lf)(x:Fd):Bool:=oneB l.k l.op l.n l.tx x
noncomputable section
mutual
def Tr.lvs:Tr->List Lf
 | .mk k nm tx op n ks=>if k=1 then [] else if k=6\/k=7\/k=8 then Tr.lvss ks else [⟨k,nm,tx,op,n⟩]
def Tr.lvss:List Tr->List Lf
 |[]=>[]
 |t::r=>Tr.lvs t++Tr.lvss r
end
mutual
def Tr.tr3(s:Txt->Option Fd):Tr->Option Bool
 | .mk k nm tx op n ks=>if k=1 then some true else if k=6 then (Tr.all3 s ks).map (!·) else if k=7 then Tr.all3 s ks else if k=8 then Tr.any3 s ks else (s nm).map (oneB k op n tx)
def Tr.all3(s:Txt->Option Fd):List Tr->Option Bool
 |[]=>some true
 |t::r=>and3 (Tr.tr3 s t) (Tr.all3 s r)
def Tr.any3(s:Txt->Option Fd):List Tr->Option Bool
 |[]=>some false
 |t::r=>or3 (Tr.tr3 s t) (Tr.any3 s r)
end
mutual
def Tr.truA(a:Txt->Fd):Tr->Bool
 | .mk k nm tx op n ks=>if k=1 then true else if k=6 then !(Tr.allA a ks) else if k=7 then Tr.allA a ks else if k=8 then Tr.anyA a ks else oneB k op n tx (a nm)
def Tr.allA(a:Txt->Fd):List Tr->Bool
 |[]=>true
 |t::r=>Tr.truA a t&&Tr.allA a r
def Tr.anyA(a:Txt->Fd):List Tr->Bool
 |[]=>false
 |t::r=>Tr.truA a t||Tr.anyA a r
end
end
theorem lvss_mem{ks:List Tr}{l:Lf}:l∈Tr.lvss ks<->∃t,t∈ks/\l∈t.lvs:=by
 induction ks with
 |nil=>simp[Tr.lvss]
 |cons t r ih=>simp[Tr.lvss,ih]
theorem and3_mono{a a' b b':Option Bool}{c:Bool}(h1:∀c,a=some c->a'=some c)(h2:∀c,b=some c->b'=some c)(h:and3 a b=some c):and3 a' b'=some c:=by
 cases a with
 |some x=>
  rw[h1 x rfl]
  cases x with
  |false=>exact h
  |true=>exact h2 c h
 |none=>
  cases b with
  |none=>cases h
  |some y=>
   cases y with
   |true=>cases h
   |false=>
    rw[h2 false rfl]
    cases h
    cases a' with
    |none=>rfl
    |some z=>cases z<;>rfl
theorem or3_mono{a a' b b':Option Bool}{c:Bool}(h1:∀c,a=some c->a'=some c)(h2:∀c,b=some c->b'=some c)(h:or3 a b=some c):or3 a' b'=some c:=by
 cases a with
 |some x=>
  rw[h1 x rfl]
  cases x with
  |true=>exact h
  |false=>exact h2 c h
 |none=>
  cases b with
  |none=>cases h
  |some y=>
   cases y with
   |false=>cases h
   |true=>
    rw[h2 true rfl]
    cases h
    cases a' with
    |none=>rfl
    |some z=>cases z<;>rfl
theorem all3_mono{s s':Txt->Option Fd}:∀ks:List Tr,(∀t,t∈ks->∀b,t.tr3 s=some b->t.tr3 s'=some b)->∀b,Tr.all3 s ks=some b->Tr.all3 s' ks=some b
 |[],_,b,h=>by rw[Tr.all3] at h ⊢;exact h
 |t::r,ih,b,h=>by
  rw[Tr.all3] at h ⊢
  exact and3_mono (ih t (by simp)) (all3_mono r fun u hu=>ih u (by simp[hu])) h
theorem any3_mono{s s':Txt->Option Fd}:∀ks:List Tr,(∀t,t∈ks->∀b,t.tr3 s=some b->t.tr3 s'=some b)->∀b,Tr.any3 s ks=some b->Tr.any3 s' ks=some b
 |[],_,b,h=>by rw[Tr.any3] at h ⊢;exact h
 |t::r,ih,b,h=>by
  rw[Tr.any3] at h ⊢
  exact or3_mono (ih t (by simp)) (any3_mono r fun u hu=>ih u (by simp[hu])) h
theorem tr3_mono{s s':Txt->Option Fd}(he:ext s s'):∀t:Tr,∀b,t.tr3 s=some b->t.tr3 s'=some b:=Tr.ind fun k nm tx op n ks ih b h=>by
 rw[Tr.tr3] at h ⊢
 by_cases h1:k=1
 ·rw[if_pos h1] at h ⊢;exact h
 rw[if_neg h1] at h ⊢
 by_cases h6:k=6
 ·rw[if_pos h6] at h ⊢
  rw[Option.map_eq_some_iff] at h
  obtain⟨c,h1,h2⟩:=h
  rw[all3_mono ks ih c h1,<-h2];rfl
 rw[if_neg h6] at h ⊢
 by_cases h7:k=7
 ·rw[if_pos h7] at h ⊢;exact all3_mono ks ih b h
 rw[if_neg h7] at h ⊢
 by_cases h8:k=8
 ·rw[if_pos h8] at h ⊢;exact any3_mono ks ih b h
 rw[if_neg h8] at h ⊢
 rw[Option.map_eq_some_iff] at h ⊢
 obtain⟨x,h1,h2⟩:=h
 exact⟨x,he _ _ h1,h2⟩
theorem tr3_full{s:Txt->Option Fd}{a:Txt->Fd}:∀t:Tr,(∀l,l∈t.lvs->s l.nm=some (a l.nm))->t.tr3 s=some (t.truA a):=Tr.ind fun k nm tx op n ks ih h=>by
 rw[Tr.lvs] at h
 rw[Tr.tr3,Tr.truA]
 by_cases h1:k=1
 ·rw[if_pos h1,if_pos h1]
 rw[if_neg h1] at h ⊢
 rw[if_neg h1]
 have hall:(∀l,l∈Tr.lvss ks->s l.nm=some (a l.nm))->∀l:List Tr,(∀t,t∈l->t∈ks)->Tr.all3 s l=some (Tr.allA a l):=by
  intro hk l
  induction l with
  |nil=>intro _;rw[Tr.all3,Tr.allA]
  |cons t r ihr=>
   intro hm
   rw[Tr.all3,Tr.allA,ih t (hm t (by simp)) (fun l hl=>hk l (lvss_mem.2 ⟨t,hm t (by simp),hl⟩)),ihr fun u hu=>hm u (by simp[hu])]
   cases t.truA a<;>rfl
 have hany:(∀l,l∈Tr.lvss ks->s l.nm=some (a l.nm))->∀l:List Tr,(∀t,t∈l->t∈ks)->Tr.any3 s l=some (Tr.anyA a l):=by
  intro hk l
  induction l with
  |nil=>intro _;rw[Tr.any3,Tr.anyA]
  |cons t r ihr=>
   intro hm
   rw[Tr.any3,Tr.anyA,ih t (hm t (by simp)) (fun l hl=>hk l (lvss_mem.2 ⟨t,hm t (by simp),hl⟩)),ihr fun u hu=>hm u (by simp[hu])]
   cases t.truA a<;>rfl
 by_cases h6:k=6
 ·rw[if_pos (.inl h6)] at h
  rw[if_pos h6,if_pos h6,hall h ks fun _ q=>q];rfl
 rw[if_neg h6,if_neg h6]
 by_cases h7:k=7
 ·rw[if_pos (.inr (.inl h7))] at h
  rw[if_pos h7,if_pos h7,hall h ks fun _ q=>q]
 rw[if_neg h7,if_neg h7]
 by_cases h8:k=8
 ·rw[if_pos (.inr (.inr h8))] at h
  rw[if_pos h8,if_pos h8,hany h ks fun _ q=>q]
 rw[if_neg (by simp[h6,h7,h8])] at h
 rw[if_neg h8,if_neg h8,h ⟨k,nm,tx,op,n⟩ (by simp)];rfl
theorem truA_congr{a b:Txt->Fd}:∀t:Tr,(∀l,l∈t.lvs->l.one (a l.nm)=l.one (b l.nm))->t.truA a=t.truA b:=Tr.ind fun k nm tx op n ks ih h=>by
 rw[Tr.lvs] at h
 rw[Tr.truA,Tr.truA]
 by_cases h1:k=1
 ·rw[if_pos h1,if_pos h1]
 rw[if_neg h1] at h ⊢
 rw[if_neg h1]
 have hall:(∀l,l∈Tr.lvss ks->l.one (a l.nm)=l.one (b l.nm))->∀l:List Tr,(∀t,t∈l->t∈ks)->Tr.allA a l=Tr.allA b l:=by
  intro hk l
  induction l with
  |nil=>intro _;rw[Tr.allA,Tr.allA]
  |cons t r ihr=>
   intro hm
   rw[Tr.allA,Tr.allA,ih t (hm t (by simp)) (fun l hl=>hk l (lvss_mem.2 ⟨t,hm t (by simp),hl⟩)),ihr fun u hu=>hm u (by simp[hu])]
 have hany:(∀l,l∈Tr.lvss ks->l.one (a l.nm)=l.one (b l.nm))->∀l:List Tr,(∀t,t∈l->t∈ks)->Tr.anyA a l=Tr.anyA b l:=by
  intro hk l
  induction l with
  |nil=>intro _;rw[Tr.anyA,Tr.anyA]
  |cons t r ihr=>
   intro hm
   rw[Tr.anyA,Tr.anyA,ih t (hm t (by simp)) (fun l hl=>hk l (lvss_mem.2 ⟨t,hm t (by simp),hl⟩)),ihr fun u hu=>hm u (by simp[hu])]
 by_cases h6:k=6
 ·rw[if_pos (.inl h6)] at h
  rw[if_pos h6,if_pos h6,hall h ks fun _ q=>q]
 rw[if_neg h6,if_neg h6]
 by_cases h7:k=7
 ·rw[if_pos (.inr (.inl h7))] at h
  rw[if_pos h7,if_pos h7,hall h ks fun _ q=>q]
 rw[if_neg h7,if_neg h7]
 by_cases h8:k=8
 ·rw[if_pos (.inr (.inr h8))] at h
  rw[if_pos h8,if_pos h8,hany h ks fun _ q=>q]
 rw[if_neg (by simp[h6,h7,h8])] at h
 rw[if_neg h8,if_neg h8]
 exact h ⟨k,nm,tx,op,n⟩ (by simp)
theorem tru_truA(f:TFact):∀t:Tr,t.tru f=t.truA (fld f):=Tr.ind fun k nm tx op n ks ih=>by
 rw[Tr.tru,Tr.truA]
 have hall:∀l:List Tr,(∀t,t∈l->t∈ks)->Tr.allT f l=Tr.allA (fld f) l:=by
  intro l
  induction l with
  |nil=>intro _;rw[Tr.allT,Tr.allA]
  |cons t r ihr=>intro hm;rw[Tr.allT,Tr.allA,ih t (hm t (by simp)),ihr fun u hu=>hm u (by simp[hu])]
 have hany:∀l:List Tr,(∀t,t∈l->t∈ks)->Tr.anyT f l=Tr.anyA (fld f) l:=by
  intro l
  induction l with
  |nil=>intro _;rw[Tr.anyT,Tr.anyA]
  |cons t r ihr=>intro hm;rw[Tr.anyT,Tr.anyA,ih t (hm t (by simp)),ihr fun u hu=>hm u (by simp[hu])]
 rw[hall ks fun _ h=>h,hany ks fun _ h=>h]
end Go.Proofs.YtelmfadihfcgnaaGreatDoor
namespace Go.Proofs.YtelmfadihfcgnaaGreatDoor
open Go Go.Pv
set_option linter.unusedVariables false
set_option linter.unusedSimpArgs false
set_option maxRecDepth 100000
def toF(x:Tpolicy_value):Fd:=⟨x.hasText,x.hasNumber,x.text,x.number⟩
abbrev MpV:=List (Txt×Tpolicy_value)
abbrev MpB:=List (Txt×Bool)
def sgm(m:MpV)(kn:MpB):Txt->Option Fd:=fun n=>if (mget kn n).getD false=true then some (toF (gV m n)) else none
def tv3:Option Bool->Int
 |none=>0
 |some true=>1
 |some false=>2
theorem tv3_tv(b:Bool):tv3 (some b)=tv b:=by cases b<;>rfl
section
variable(F:Nat)(m:MpV)(kn:MpB)(nm:List UInt8)
theorem M281_3:M281 F ⟨m,some kn⟩ nm=some (gV m nm,(mget kn nm).getD false):=rfl
theorem M282_3(op n:Int)(tx:List (List UInt8)):M282 F ⟨nm,tx⟩ ⟨m,some kn⟩=some (tv3 ((sgm m kn nm).map (oneB 2 op n tx))):=by
 unfold M282 sgm
 rw[M281_3,Option.bind_some]
 dsimp only
 cases (mget kn nm).getD false
 ·rfl
 ·rw[M74_eq,M72_eq,Option.bind_some,M72_eq,if_pos rfl,Option.map_some,tv3_tv]
  unfold oneB toF
  rw[txT2]
  cases (gV m nm).hasText<;>rfl
theorem M283_3(op n:Int)(tx:List (List UInt8)):M283 F ⟨nm,tx⟩ ⟨m,some kn⟩=some (tv3 ((sgm m kn nm).map (oneB 3 op n tx))):=by
 unfold M283 sgm
 rw[M281_3,Option.bind_some]
 dsimp only
 cases (mget kn nm).getD false
 ·rfl
 ·rw[M237_1_eq,M72_eq,Option.bind_some,M72_eq,if_pos rfl,Option.map_some,tv3_tv]
  unfold oneB toF
  rw[txT3]
  cases (gV m nm).hasText<;>rfl
theorem M285_3(op n:Int)(tx:List (List UInt8)):M285 F ⟨nm⟩ ⟨m,some kn⟩=some (tv3 ((sgm m kn nm).map (oneB 4 op n tx))):=by
 unfold M285 sgm
 rw[M281_3,Option.bind_some]
 dsimp only
 cases (mget kn nm).getD false
 ·rfl
 ·rw[M72_eq,M72_eq,if_pos rfl,Option.map_some,tv3_tv]
  unfold oneB toF
  cases (gV m nm).hasText<;>rfl
theorem M286_3(op n:Int)(tx:List (List UInt8)):M286 F ⟨nm,op,n⟩ ⟨m,some kn⟩=some (tv3 ((sgm m kn nm).map (oneB 5 op n tx))):=by
 unfold M286 sgm
 rw[M281_3,Option.bind_some]
 dsimp only
 cases (mget kn nm).getD false
 ·rfl
 ·rw[M287_eq,M72_eq,Option.bind_some,M72_eq,if_pos rfl,Option.map_some,tv3_tv]
  unfold oneB toF
  cases (gV m nm).hasNumber<;>rfl
end
theorem hold3(m:MpV)(kn:MpB):∀t:Tr,t.ok->t.flt=0->∀F,t.fu<=F->Miholds F t.cd ⟨m,some kn⟩=some (tv3 (t.tr3 (sgm m kn))):=Tr.ind fun k nm tx op n ks ih ok hz F hF=>by
 rw[Tr.fu] at hF
 obtain⟨hnode,hfl⟩:=flt_zero hz
 obtain⟨F,rfl⟩:∃G,F=G+1:=⟨F - 1,by omega⟩
 show Miholds_B (Miholds F) F (Tr.mk k nm tx op n ks).cd ⟨m,some kn⟩=_
 have hkid:∀t,t∈ks->Miholds F t.cd ⟨m,some kn⟩=some (tv3 (t.tr3 (sgm m kn))):=fun t ht=>ih t ht (Tr.oks_mem (Tr.okks ok).1 ht) (flts_mem hfl ht) F (by have:=Tr.fu_mem ht;omega)
 have hkk:=node_kind hnode
 dsimp only at hkk
 have hk':k=1\/k=2\/k=3\/k=4\/k=5\/k=6\/k=7\/k=8:=by omega
 rw[Tr.cd,Tr.tr3]
 have hall:∀(l:List Tr) (A:Option Bool),A≠some false->(∀t,t∈l->t∈ks)->M289_L1 (Miholds F) F ⟨m,some kn⟩ (fun n4=>some n4) (Tr.cds l) (tv3 A)=some (tv3 (and3 A (Tr.all3 (sgm m kn) l))):=by
  intro l
  induction l with
  |nil=>
   intro A hA _
   rw[Tr.cds,Tr.all3,M289_L1]
   cases A with
   |none=>rfl
   |some b=>cases b<;>rfl
  |cons t r ihr=>
   intro A hA hm
   rw[Tr.cds,M289_L1,hkid t (hm t (by simp)),Option.bind_some,jn_def,Tr.all3]
   have hr:=fun B hB=>ihr B hB fun u hu=>hm u (by simp[hu])
   cases t.tr3 (sgm m kn) with
   |none=>
    show M289_L1 _ _ _ _ _ 0=_
    rw[show(0:Int)=tv3 none from rfl,hr none (by simp)]
    cases A with
    |none=>cases Tr.all3 (sgm m kn) r with
     |none=>rfl
     |some b=>cases b<;>rfl
    |some a=>cases a with
     |false=>exact absurd rfl hA
     |true=>rfl
   |some b=>
    cases b with
    |false=>
     cases A with
     |none=>rfl
     |some a=>cases a with
      |false=>exact absurd rfl hA
      |true=>rfl
    |true=>exact hr A hA
 have hany:∀(l:List Tr) (A:Option Bool),A≠some true->(∀t,t∈l->t∈ks)->M290_L1 (Miholds F) F ⟨m,some kn⟩ (fun n4=>some n4) (Tr.cds l) (tv3 A)=some (tv3 (or3 A (Tr.any3 (sgm m kn) l))):=by
  intro l
  induction l with
  |nil=>
   intro A hA _
   rw[Tr.cds,Tr.any3,M290_L1]
   cases A with
   |none=>rfl
   |some b=>cases b<;>rfl
  |cons t r ihr=>
   intro A hA hm
   rw[Tr.cds,M290_L1,hkid t (hm t (by simp)),Option.bind_some,jn_def,Tr.any3]
   have hr:=fun B hB=>ihr B hB fun u hu=>hm u (by simp[hu])
   cases t.tr3 (sgm m kn) with
   |none=>
    show M290_L1 _ _ _ _ _ 0=_
    rw[show(0:Int)=tv3 none from rfl,hr none (by simp)]
    cases A with
    |none=>cases Tr.any3 (sgm m kn) r with
     |none=>rfl
     |some b=>cases b<;>rfl
    |some a=>cases a with
     |true=>exact absurd rfl hA
     |false=>rfl
   |some b=>
    cases b with
    |true=>
     cases A with
     |none=>rfl
     |some a=>cases a with
      |true=>exact absurd rfl hA
      |false=>rfl
    |false=>exact hr A hA
 unfold Miholds_B
 rcases hk' with e|e|e|e|e|e|e|e
 ·subst e
  simp only[show ¬(1:Int)=2 by decide,show ¬(1:Int)=3 by decide,show ¬(1:Int)=4 by decide,show ¬(1:Int)=5 by decide,show ¬(1:Int)=6 by decide,show ¬(1:Int)=7 by decide,show ¬(1:Int)=8 by decide,if_false]
  rw[vdec_mkne (by decide),vdec_mkne (by decide),vdec_mkne (by decide),vdec_mkne (by decide),vdec_mkne (by decide),vdec_mkne (by decide),vdec_mkne (by decide),vdec_mk inj_True]
  rfl
 ·subst e
  rw[if_pos rfl,vdec_mk inj_Is]
  exact M282_3 F m kn nm op n tx
 ·subst e
  rw[if_neg (by decide),if_pos rfl,vdec_mkne (by decide),vdec_mk inj_Begins]
  exact M283_3 F m kn nm op n tx
 ·subst e
  rw[if_neg (by decide),if_neg (by decide),if_pos rfl,vdec_mkne (by decide),vdec_mkne (by decide),vdec_mk inj_Has]
  exact M285_3 F m kn nm op n tx
 ·subst e
  rw[if_neg (by decide),if_neg (by decide),if_neg (by decide),if_pos rfl,vdec_mkne (by decide),vdec_mkne (by decide),vdec_mkne (by decide),vdec_mk inj_Number]
  exact M286_3 F m kn nm op n tx
 ·subst e
  rw[if_neg (by decide),if_neg (by decide),if_neg (by decide),if_neg (by decide),if_pos rfl,vdec_mkne (by decide),vdec_mkne (by decide),vdec_mkne (by decide),vdec_mkne (by decide),vdec_mk inj_Not]
  have h1:ks.length=1:=by rw[<-node_not hnode rfl];exact(Tr.toKs_len ks).symm
  match ks,h1,hkid with
  |[t],_,hkid=>
   show M288 (Miholds F) F ⟨(Tr.cds [t]).headD _⟩ ⟨m,some kn⟩=_
   rw[Tr.cds,List.headD_cons,M288,hkid t (by simp),Option.bind_some,if_neg (by decide),if_pos rfl,Tr.all3,Tr.all3]
   cases t.tr3 (sgm m kn) with
   |none=>rfl
   |some b=>cases b<;>rfl
 ·subst e
  rw[if_neg (by decide),if_neg (by decide),if_neg (by decide),if_neg (by decide),if_neg (by decide),if_pos rfl,vdec_mkne (by decide),vdec_mkne (by decide),vdec_mkne (by decide),vdec_mkne (by decide),vdec_mkne (by decide),vdec_mk inj_All]
  exact hall ks (some true) (by simp) fun _ h=>h
 ·subst e
  rw[if_neg (by decide),if_neg (by decide),if_neg (by decide),if_neg (by decide),if_neg (by decide),if_neg (by decide),if_pos rfl,vdec_mkne (by decide),vdec_mkne (by decide),vdec_mkne (by decide),vdec_mkne (by decide),vdec_mkne (by decide),vdec_mkne (by decide),vdec_mk inj_Any]
  exact hany ks (some false) (by simp) fun _ h=>h
def KN{κ τ:Type}(m:List (κ×τ)):Prop:=(m.map (·.1)).Nodup
section
variable{κ τ:Type}[DecidableEq κ]
theorem mget_none{m:List (κ×τ)}{k:κ}:mget m k=none<->k ∉ m.map (·.1):=by
 induction m with
 |nil=>simp[mget]
 |cons p r ih=>
  rw[mget]
  by_cases h:p.1=k
  ·rw[if_pos h];simp[h]
  ·rw[if_neg h,ih]
   simp only[List.map_cons,List.mem_cons,not_or]
   exact⟨fun q=>⟨Ne.symm h,q⟩,fun q=>q.2⟩
theorem mgetQ_mem{m:List (κ×τ)}{k:κ}{v:τ}(h:mget m k=some v):(k,v)∈m:=by
 induction m with
 |nil=>simp[mget] at h
 |cons p r ih=>
  rw[mget] at h
  by_cases e:p.1=k
  ·rw[if_pos e] at h;cases h;subst e;simp
  ·rw[if_neg e] at h;exact List.mem_cons_of_mem _ (ih h)
theorem mem_mget{m:List (κ×τ)}(hn:KN m){p:κ×τ}(h:p∈m):mget m p.1=some p.2:=by
 induction m with
 |nil=>simp at h
 |cons q r ih=>
  rw[mget]
  unfold KN at hn
  rw[List.map_cons,List.nodup_cons] at hn
  rcases List.mem_cons.1 h with e|h
  ·subst e;rw[if_pos rfl]
  ·rw[if_neg (fun e=>hn.1 (by rw[e];exact List.mem_map_of_mem h)),ih hn.2 h]
theorem keys_mput{m:List (κ×τ)}{k:κ}{v:τ}:∀x,x∈(mput m k v).map (·.1)<->x=k\/x∈m.map (·.1):=by
 induction m with
 |nil=>intro x;simp[mput]
 |cons p r ih=>
  intro x
  rw[mput]
  by_cases h:p.1=k
  ·rw[if_pos h];simp[h]
  ·rw[if_neg h]
   simp only[List.map_cons,List.mem_cons,ih]
   constructor
   ·rintro(h|h|h)
    ·exact .inr (.inl h)
    ·exact .inl h
    ·exact .inr (.inr h)
   ·rintro(h|h|h)
    ·exact .inr (.inl h)
    ·exact .inl h
    ·exact .inr (.inr h)
theorem KN.put{m:List (κ×τ)}{k:κ}{v:τ}(h:KN m):KN (mput m k v):=by
 unfold KN at *
 induction m with
 |nil=>simp[mput]
 |cons p r ih=>
  rw[List.map_cons,List.nodup_cons] at h
  rw[mput]
  by_cases e:p.1=k
  ·rw[if_pos e,List.map_cons,List.nodup_cons];exact⟨by rw[<-e];exact h.1,h.2⟩
  ·rw[if_neg e,List.map_cons,List.nodup_cons]
   exact⟨fun hx=>(keys_mput _).1 hx |>.elim e h.1,ih h.2⟩
theorem mdel_sub{m:List (κ×τ)}{k x:κ}(h:x∈(mdel m k).map (·.1)):x∈m.map (·.1):=by
 induction m with
 |nil=>simp[mdel] at h
 |cons p r ih=>
  rw[mdel] at h
  split at h
  ·exact List.mem_cons_of_mem _ h
  ·rw[List.map_cons,List.mem_cons] at h ⊢
   exact h.imp id ih
theorem KN.del{m:List (κ×τ)}{k:κ}(h:KN m):KN (mdel m k):=by
 unfold KN at *
 induction m with
 |nil=>simp[mdel]
 |cons p r ih=>
  rw[List.map_cons,List.nodup_cons] at h
  rw[mdel]
  split
  ·exact h.2
  ·rw[List.map_cons,List.nodup_cons];exact⟨fun hx=>h.1 (mdel_sub hx),ih h.2⟩
theorem mget_mdel{m:List (κ×τ)}{k x:κ}(h:KN m):mget (mdel m k) x=if x=k then none else mget m x:=by
 unfold KN at h
 induction m with
 |nil=>simp[mdel,mget]
 |cons p r ih=>
  rw[List.map_cons,List.nodup_cons] at h
  rw[mdel]
  by_cases e:p.1=k
  ·rw[if_pos e]
   by_cases ex:x=k
   ·rw[if_pos ex,mget_none];rw[ex,<-e];exact h.1
   ·rw[if_neg ex,mget,if_neg (by rw[e];exact Ne.symm ex)]
  ·rw[if_neg e,mget,mget,ih h.2]
   by_cases ex:x=k
   ·rw[if_pos ex,if_pos ex,if_neg (by rw[ex];exact e)]
   ·rw[if_neg ex,if_neg ex]
end
abbrev Asg:=Txt->Option Tpolicy_value
def asF(s:Asg):Txt->Option Fd:=fun n=>(s n).map toF
structure Std(m:MpV)(kn:MpB)(s:Asg):Prop where
 fm:∀n,mget m n=s n
 fk:∀n,mget kn n=(s n).map fun _=>true
 nm:KN m
 nk:KN kn
theorem Std.sgm{m:MpV}{kn:MpB}{s:Asg}(h:Std m kn s):sgm m kn=asF s:=by
 funext n
 unfold Go.Proofs.YtelmfadihfcgnaaGreatDoor.sgm asF gV
 rw[h.fk,h.fm]
 cases s n<;>rfl
theorem find_ok(P:Asg->Option Bool)(F0:Nat)(cs:List KV)(n0:Int)(hC:∀F m kn s,F0<=F->Std m kn s->M57 F ⟨m,some kn⟩ cs n0=some (tv3 (P s)))(by_:List (Txt×List Tpolicy_value))(ns:List Txt)(hn:ns.Nodup)(hlen:ns.length<=1000):
  ∀(rest pre:List Txt),ns=pre++rest->∀F,F0+rest.length+1<=F->∀m kn s,Std m kn s->(∀n,n∈rest->s n=none)->
   ∃m' kn',(match fnd? P (fun n=>(mget by_ n).getD []) rest s with
    |some s'=>M36 F (pre.length:Int) by_ cs n0 ns m kn=some (true,m',kn')/\Std m' kn' s'
    |none=>M36 F (pre.length:Int) by_ cs n0 ns m kn=some (false,m',kn')/\Std m' kn' s)
 |[],pre,hns,F,hF,m,kn,s,hs,_=>by
  obtain⟨F,rfl⟩:∃G,F=G+1:=⟨F - 1,by omega⟩
  have hl:ns.length=pre.length:=by rw[hns];simp
  have hh:=hC F m kn s (by simp at hF;omega) hs
  refine⟨m,kn,?_⟩
  rw[fnd?]
  show match (if P s=some true then some s else none) with|some s'=>M36_B (M36 F) F _ _ _ _ _ _ _=_/\_|none=>M36_B (M36 F) F _ _ _ _ _ _ _=_/\_
  unfold M36_B
  rw[hh,Option.bind_some]
  by_cases h1:P s=some true
  ·rw[if_pos h1]
   dsimp only
   rw[show P s=some true from h1]
   exact⟨rfl,hs⟩
  ·rw[if_neg h1]
   dsimp only
   refine⟨?_,hs⟩
   have h1:P s≠some true:=h1
   cases h2:P s with
   |none=>
    show(if (((0:Int))==1)=true then _ else if ((0:Int)==2)=true then _ else if ((pre.length:Int)==((ns.length:Nat):Int))=true then _ else _)=_
    rw[if_neg (by decide),if_neg (by decide),if_pos (by simp[hl])]
   |some b=>
    cases b with
    |true=>exact absurd h2 h1
    |false=>rfl
 |n::r,pre,hns,F,hF,m,kn,s,hs,hno=>by
  obtain⟨F,rfl⟩:∃G,F=G+1:=⟨F - 1,by omega⟩
  simp only[List.length_cons] at hF
  have hh:=hC F m kn s (by omega) hs
  have hsn:=hno n (by simp)
  have hnd:n ∉ r:=by
   rw[hns,List.nodup_append] at hn
   exact(List.nodup_cons.1 hn.2.1).1
  have hl:ns.length=pre.length+(r.length+1):=by rw[hns];simp
  rw[fnd?]
  cases h2:P s with
  |some b=>
   have h2':P s=some b:=h2
   rw[h2'] at hh
   refine⟨m,kn,?_⟩
   cases b with
   |true=>
    dsimp only
    refine⟨?_,hs⟩
    show M36_B (M36 F) F _ _ _ _ _ _ _=_
    unfold M36_B
    rw[hh,Option.bind_some];rfl
   |false=>
    dsimp only
    refine⟨?_,hs⟩
    show M36_B (M36 F) F _ _ _ _ _ _ _=_
    unfold M36_B
    rw[hh,Option.bind_some];rfl
  |none=>
   have h2':P s=none:=h2
   rw[h2'] at hh
   dsimp only
   have hbody:M36 (F+1) (pre.length:Int) by_ cs n0 ns m kn=M36_L1 (M36 F) F (pre.length:Int) by_ cs n0 ns n (fun m41 m42=>some (false,mdel m41 n,mdel m42 n)) ((mget by_ n).getD []) m (mput kn n true):=by
    show M36_B (M36 F) F _ _ _ _ _ _ _=_
    unfold M36_B
    rw[hh,Option.bind_some]
    show(if (((0:Int))==1)=true then _ else if ((0:Int)==2)=true then _ else if ((pre.length:Int)==((ns.length:Nat):Int))=true then _ else _)=_
    rw[if_neg (by decide),if_neg (by decide),if_neg (by simp;omega),idx_nat (by omega),Option.bind_some]
    have:ns[pre.length]'(by omega)=n:=by simp[hns]
    rw[this]
    rfl
   rw[hbody]
   -- the loop over what the name can be
   have loop:∀(xs:List Tpolicy_value) (m1:MpV) (kn1:MpB),(∀k,k≠n->mget m1 k=s k)->(∀k,mget kn1 k=if k=n then some true else (s k).map fun _=>true)->KN m1->KN kn1->
     ∃m' kn',(match xs.findSome? (fun x=>fnd? P (fun n=>(mget by_ n).getD []) r (stl s n x)) with
      |some s'=>M36_L1 (M36 F) F (pre.length:Int) by_ cs n0 ns n (fun m41 m42=>some (false,mdel m41 n,mdel m42 n)) xs m1 kn1=some (true,m',kn')/\Std m' kn' s'
      |none=>M36_L1 (M36 F) F (pre.length:Int) by_ cs n0 ns n (fun m41 m42=>some (false,mdel m41 n,mdel m42 n)) xs m1 kn1=some (false,m',kn')/\Std m' kn' s):=by
    intro xs
    induction xs with
    |nil=>
     intro m1 kn1 q1 q2 q3 q4
     refine⟨mdel m1 n,mdel kn1 n,rfl,fun k=>?_,fun k=>?_,q3.del,q4.del⟩
     ·rw[mget_mdel q3]
      by_cases e:k=n
      ·rw[if_pos e,e,hsn]
      ·rw[if_neg e,q1 k e]
     ·rw[mget_mdel q4]
      by_cases e:k=n
      ·rw[if_pos e,e,hsn];rfl
      ·rw[if_neg e,q2,if_neg e]
    |cons x xs ih=>
     intro m1 kn1 q1 q2 q3 q4
     have hst:Std (mput m1 n x) kn1 (stl s n x):=by
      refine⟨fun k=>?_,fun k=>?_,q3.put,q4⟩
      ·rw[mget_mput];unfold stl
       by_cases e:k=n
       ·rw[if_pos e.symm,if_pos e]
       ·rw[if_neg (Ne.symm e),if_neg e,q1 k e]
      ·rw[q2];unfold stl
       by_cases e:k=n
       ·rw[if_pos e,if_pos e];rfl
       ·rw[if_neg e,if_neg e]
     obtain⟨m2,kn2,h3⟩:=find_ok P F0 cs n0 hC by_ ns hn hlen r (pre++[n]) (by rw[hns];simp) F (by omega) (mput m1 n x) kn1 (stl s n x) hst (fun k hk=>by
      unfold stl
      rw[if_neg (show ¬k=n from fun e=>hnd (e ▸ hk))]
      exact hno k (by simp[hk]))
     rw[show((pre++[n]).length:Int)=(pre.length:Int)+1 by simp] at h3
     rw[List.findSome?_cons]
     cases h4:fnd? P (fun n=>(mget by_ n).getD []) r (stl s n x) with
     |some s'=>
      rw[h4] at h3
      dsimp only at h3 ⊢
      refine⟨m2,kn2,?_,h3.2⟩
      rw[M36_L1,w64_id (by omega) (by omega),h3.1,Option.bind_some];rfl
     |none=>
      rw[h4] at h3
      dsimp only at h3 ⊢
      have h5:=h3.2
      obtain⟨m',kn',h6⟩:=ih m2 kn2 (fun k hk=>by rw[h5.fm];unfold stl;rw[if_neg hk]) (fun k=>by
       rw[h5.fk];unfold stl
       by_cases e:k=n
       ·rw[if_pos e,if_pos e];rfl
       ·rw[if_neg e,if_neg e]) h5.nm h5.nk
      refine⟨m',kn',?_⟩
      have hstep:M36_L1 (M36 F) F (pre.length:Int) by_ cs n0 ns n (fun m41 m42=>some (false,mdel m41 n,mdel m42 n)) (x::xs) m1 kn1=M36_L1 (M36 F) F (pre.length:Int) by_ cs n0 ns n (fun m41 m42=>some (false,mdel m41 n,mdel m42 n)) xs m2 kn2:=by
       rw[M36_L1,w64_id (by omega) (by omega),h3.1,Option.bind_some];rfl
      rw[hstep]
      exact h6
   exact loop _ m (mput kn n true) (fun k hk=>hs.fm k) (fun k=>by
    rw[mget_mput,hs.fk]
    by_cases e:k=n
    ·rw[if_pos e.symm,if_pos e]
    ·rw[if_neg (Ne.symm e),if_neg e]) hs.nm hs.nk.put
termination_by rest=>rest.length
end Go.Proofs.YtelmfadihfcgnaaGreatDoor
