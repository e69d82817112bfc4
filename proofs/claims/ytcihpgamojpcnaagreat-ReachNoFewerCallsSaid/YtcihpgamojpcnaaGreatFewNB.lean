/- Part of the proof: YN3, KW, YP5, YP6, FL, UV, NA, NB. -/
import Derived.Test.YtcihpgamojpcnaaGreatFewYN2
import Derived.Test.YtcihpgamojpcnaaGreatFewYC
namespace Go.Proofs.YtcihpgamojpcnaaGreat
open Go Go.Pv
set_option linter.unusedVariables false
theorem find_uniq{α:Type}{f:α->Tx}:∀{l:List α},l.Pairwise (fun a b=>Op.bytesLess (f a) (f b)=true)->∀{x:α},x∈l->l.find? (fun y=>f y==f x)=some x
 |y::l,hp,x,hx=>by
  rw[List.pairwise_cons] at hp
  rw[List.find?_cons]
  rcases List.mem_cons.1 hx with e|e
  ·subst e;simp
  ·have:(f y==f x)=false:=by simpa using bl_ne (hp.1 x e)
   rw[this];exact find_uniq hp.2 e
theorem ifm_get(t:Tx)(i:TIface):∀(l:List TIface) (m:List (Tx×TIface)),mget (ifm m l) t=some i->(i∈l/\i.Name=t)\/mget m t=some i
 |[],m,h=>.inr h
 |x::l,m,h=>by
  rcases ifm_get t i l _ h with h|h
  ·exact .inl ⟨List.mem_cons_of_mem _ h.1,h.2⟩
  ·rw[mget_mput] at h
   split at h
   ·rename_i e;simp at h;subst h;exact .inl ⟨List.mem_cons_self,e⟩
   ·exact .inr h
theorem is_iface{g:TGraph}(R:RightG g){t:Tx}{l:List Tx}(h:isOf g t=some l):∃i,i∈g.Ifaces/\i.Name=t/\i.Methods=l/\g.Ifaces.find? (fun y=>y.Name==t)=some i:=by
 unfold isOf at h
 rw[Option.map_eq_some_iff] at h
 obtain⟨i,h1,h2⟩:=h
 rcases ifm_get t i _ _ h1 with h|h
 ·exact⟨i,h.1,h.2,h2,by rw[<-h.2];exact find_uniq (f:=TIface.Name) R.isrt h.1⟩
 ·simp[mget] at h
theorem fit_iff{g:TGraph}(R:RightG g)(how:Int)(fs:List Tx){n:Tx}{i:TIface}(hf:g.Ifaces.find? (fun y=>y.Name==n)=some i)(t:Int):t∈fitL (wOf g how fs) n<->∃j:Nat,∃h:j<g.Types.length,t=j/\fitB g.Types[j] i=true:=by
 unfold fitL wOf
 simp only
 rw[fitM_get g.Types n g.Ifaces [] R.isrt]
 simp only[mget,Option.getD_none,List.nil_append]
 rw[hf]
 show t∈fitIdx i 0 g.Types<->_
 rw[fitIdx_mem]
 simp
theorem fI_at{g:TGraph}(R:RightG g)(how:Int)(fs:List Tx){i:Nat}(h:i<g.Funcs.length):fI (wOf g how fs) (g.Funcs[i]).Name=i:=by
 unfold fI wOf
 simp only
 have:=nums_get (g.Funcs.map (·.Name)) [] 0 i (by simpa using h) (srt_names R.fsrt)
 simp only[List.getElem_map] at this
 rw[this];simp
theorem tI_at{g:TGraph}(R:RightG g)(how:Int)(fs:List Tx){i:Nat}(h:i<g.Types.length):tI (wOf g how fs) (g.Types[i]).Name=i:=by
 unfold tI wOf
 simp only
 have:=nums_get (g.Types.map (·.Name)) [] 0 i (by simpa using h) (srt_names R.tsrt)
 simp only[List.getElem_map] at this
 rw[this];simp
theorem fs_at{g:TGraph}{x:Tx}(h:fsOf g x=true):∃i:Nat,∃h:i<g.Funcs.length,(g.Funcs[i]).Name=x:=by
 obtain⟨f,hf,rfl⟩:=in_names.1 h
 obtain⟨i,hi,rfl⟩:=List.getElem_of_mem hf
 exact⟨i,hi,rfl⟩
theorem ts_at{g:TGraph}{x:Tx}(h:tsOf g x=true):∃i:Nat,∃h:i<g.Types.length,(g.Types[i]).Name=x:=by
 obtain⟨f,hf,rfl⟩:=in_types.1 h
 obtain⟨i,hi,rfl⟩:=List.getElem_of_mem hf
 exact⟨i,hi,rfl⟩
theorem M47_at{F:Nat}(hF:1000<=F){g:TGraph}(R:RightG g)(how:Int)(fs:List Tx)(c:TCall){i:Nat}(hi:i<g.Types.length):M47 F (wOf g how fs) c (i:Int)=some (fI (wOf g how fs) (mOf g.Types[i] c.Method).1):=by
 have hT:=R.t g.Types[i] (List.getElem_mem _)
 unfold M47
 rw[show idx (wOf g how fs).g.Types (i:Int)=some g.Types[i] from idx_nat hi,Option.bind_some,M72_eq F _ _ hT.len hT.srt hF,Option.bind_some]
 rfl
theorem idx_at{α:Type}{l:List α}{f:Int}{x:α}(h:idx l f=some x):∃i:Nat,∃hi:i<l.length,f=i/\l[i]=x:=by
 have h1:=idx_lt h
 have h2:=idx_some h
 exact⟨f.toNat,h1,by have:=h2.1;omega,(List.getElem?_eq_some_iff.1 h2.2).2⟩
theorem dis_aim{g:TGraph}(R:RightG g){x:TFunc}(hx:x∈g.Funcs){c:TCall}(hc:c∈x.Calls)(k:c.Kind≠1):∃i,i∈g.Ifaces/\g.Ifaces.find? (fun y=>y.Name==c.Target)=some i/\ifG g c.Target=i/\∀t,fitB t i=true->(mOf t c.Method).2=true:=by
 rcases((R.f x hx).calls c hc).kind with ⟨h,_⟩|⟨_,l,h1,h2⟩
 ·exact absurd h k
 ·obtain⟨i,i1,i2,i3,i4⟩:=is_iface R h1
  refine⟨i,i1,i4,by unfold ifG;rw[i4];rfl,fun t ht=>?_⟩
  unfold fitB at ht
  rw[List.all_eq_true] at ht
  exact ht _ (by rw[i3];exact h2)
theorem RR_RN{F:Nat}(hF:1000<=F){g:TGraph}(R:RightG g){how:Int}(hh:how=1\/how=2){fs:List Tx}{b:Bool}{v:Int}(h:RR F (wOf g how fs) b v):
  if b then ∃i:Nat,∃h:i<g.Types.length,v=i/\RN g how (onF fs) true (g.Types[i]).Name else ∃i:Nat,∃h:i<g.Funcs.length,v=i/\RN g how (onF fs) false (g.Funcs[i]).Name:=by
 induction h with
 | @entry e h=>
  have h:e∈g.Entries:=h
  obtain⟨i,hi,he⟩:=fs_at (R.e e h)
  subst he
  show ∃j,_
  exact⟨i,hi,fI_at R how fs hi,.entry h⟩
 | @dir f x c hf hx hc ho k ih=>
  obtain⟨i,hi,rfl,ih2⟩:=(show ∃i:Nat,∃h:i<g.Funcs.length,f=i/\RN g how (onF fs) false (g.Funcs[i]).Name from ih)
  obtain⟨i',hi',e1,e2⟩:=idx_at hx
  have:i'=i:=by omega
  subst this
  have hx:g.Funcs[i']=x:=e2
  have hxm:x∈g.Funcs:=by rw[<-hx];exact List.getElem_mem _
  rw[hx] at ih2
  have ha:Tprovenderref6_aim.mk [] c.Target∈aimsG g c:=by unfold aimsG;rw[if_pos k];simp
  obtain⟨j,hj,he⟩:=fs_at (aim_fs R hxm hc ha)
  have he:(g.Funcs[j]).Name=c.Target:=he
  show ∃j,_
  refine⟨j,hj,by rw[<-he];exact fI_at R how fs hj,?_⟩
  rw[he]
  rw[onB_eq] at ho
  exact .aim ih2 hxm hc ho ha (fun _ h=>absurd rfl h)
 | @dis f t v x c hf hx hc ho k ht hm hv ih ihm=>
  obtain⟨i,hi,rfl,ih2⟩:=(show ∃i:Nat,∃h:i<g.Funcs.length,f=i/\RN g how (onF fs) false (g.Funcs[i]).Name from ih)
  obtain⟨i',hi',e1,e2⟩:=idx_at hx
  have:i'=i:=by omega
  subst this
  have hx:g.Funcs[i']=x:=e2
  have hxm:x∈g.Funcs:=by rw[<-hx];exact List.getElem_mem _
  rw[hx] at ih2
  obtain⟨I,I1,I2,I3,I4⟩:=dis_aim R hxm hc k
  obtain⟨j,hj,rfl,hfit⟩:=(fit_iff R how fs I2 t).1 ht
  rw[M47_at hF R how fs c hj] at hv
  simp only[Option.some.injEq] at hv
  have ha:Tprovenderref6_aim.mk (g.Types[j]).Name (mOf g.Types[j] c.Method).1∈aimsG g c:=by
   unfold aimsG
   rw[if_neg k]
   exact List.mem_filterMap.2 ⟨g.Types[j],List.getElem_mem _,by unfold aimO;rw[if_pos ⟨I4 _ hfit,by rw[I3];exact hfit⟩]⟩
  obtain⟨q,hq,he⟩:=fs_at (aim_fs R hxm hc ha)
  have he:(g.Funcs[q]).Name=(mOf g.Types[j] c.Method).1:=he
  show ∃j,_
  refine⟨q,hq,by rw[<-hv,<-he];exact fI_at R how fs hq,?_⟩
  rw[he]
  rw[onB_eq] at ho
  refine .aim ih2 hxm hc ho ha (fun h1 _=>?_)
  have hmd:(wOf g how fs).made=true:=by
   have:how=2:=hh.resolve_left h1
   simp[wOf,this]
  obtain⟨j',hj',e1,e2⟩:=(show ∃i:Nat,∃h:i<g.Types.length,(j:Int)=i/\RN g how (onF fs) true (g.Types[i]).Name from ihm hmd)
  have:j'=j:=by omega
  subst this
  exact e2
 | @mk f x t hf hx ht ih=>
  obtain⟨i,hi,rfl,ih2⟩:=(show ∃i:Nat,∃h:i<g.Funcs.length,f=i/\RN g how (onF fs) false (g.Funcs[i]).Name from ih)
  obtain⟨i',hi',e1,e2⟩:=idx_at hx
  have:i'=i:=by omega
  subst this
  have hx:g.Funcs[i']=x:=e2
  have hxm:x∈g.Funcs:=by rw[<-hx];exact List.getElem_mem _
  rw[hx] at ih2
  obtain⟨j,hj,he⟩:=ts_at ((R.f x hxm).makes t ht)
  subst he
  show ∃j,_
  exact⟨j,hj,tI_at R how fs hj,.mk ih2 hxm ht⟩
theorem RN_RR{F:Nat}(hF:1000<=F){g:TGraph}(R:RightG g){how:Int}{fs:List Tx}{b:Bool}{y:Tx}(h:RN g how (onF fs) b y):
  if b then RR F (wOf g how fs) true (tI (wOf g how fs) y) else RR F (wOf g how fs) false (fI (wOf g how fs) y):=by
 induction h with
 | @entry e h=>exact RR.entry (w:=wOf g how fs) h
 | @aim x c a hf hx hc ho ha hm ih ihm=>
  have ih:RR F (wOf g how fs) false (fI (wOf g how fs) x.Name):=ih
  obtain⟨i,hi,rfl⟩:=List.getElem_of_mem hx
  rw[fI_at R how fs hi] at ih
  have hix:idx (wOf g how fs).g.Funcs (i:Int)=some g.Funcs[i]:=idx_nat hi
  have hon:onB (wOf g how fs) c.Feature=true:=by rw[onB_eq];exact ho
  show RR F (wOf g how fs) false _
  unfold aimsG at ha
  split at ha
  ·rename_i k
   simp at ha;subst ha
   exact .dir ih hix hc hon k
  ·rename_i k
   obtain⟨t,ht,h⟩:=List.mem_filterMap.1 ha
   unfold aimO at h
   split at h
   ·rename_i h1
    simp only[Option.some.injEq] at h
    subst h
    obtain⟨j,hj,rfl⟩:=List.getElem_of_mem ht
    obtain⟨I,I1,I2,I3,I4⟩:=dis_aim R hx hc k
    refine .dis ih hix hc hon k ((fit_iff R how fs I2 (j:Int)).2 ⟨j,hj,rfl,by rw[<-I3];exact h1.2⟩) (fun hmd=>?_) (M47_at hF R how fs c hj)
    have h2:how≠1:=by intro e;simp[wOf,e] at hmd
    have h3:(g.Types[j]).Name≠[]:=by
     have:=(R.t _ ht).nam
     intro e;rw[e] at this;simp[nm] at this
    have:=ihm h2 h3
    rw[<-tI_at R how fs hj]
    exact this
   ·simp at h
 | @mk x t hf hx ht ih=>
  have ih:RR F (wOf g how fs) false (fI (wOf g how fs) x.Name):=ih
  obtain⟨i,hi,rfl⟩:=List.getElem_of_mem hx
  rw[fI_at R how fs hi] at ih
  exact RR.mk (w:=wOf g how fs) ih (idx_nat hi) ht
theorem reach_iff{F:Nat}(hF:1000<=F){g:TGraph}(R:RightG g){how:Int}(hh:how=1\/how=2)(fs:List Tx){i:Nat}(hi:i<g.Funcs.length):RR F (wOf g how fs) false (i:Int)<->RN g how (onF fs) false (g.Funcs[i]).Name:=by
 constructor
 ·intro h
  obtain⟨j,hj,e,h2⟩:=(show ∃j:Nat,∃h:j<g.Funcs.length,(i:Int)=j/\RN g how (onF fs) false (g.Funcs[j]).Name from RR_RN hF R hh h)
  have:j=i:=by omega
  subst this;exact h2
 ·intro h
  have:RR F (wOf g how fs) false (fI (wOf g how fs) (g.Funcs[i]).Name):=RN_RR hF R h
  rw[fI_at R how fs hi] at this;exact this
def pick{α:Type}(f:α->Tx):List α->List Bool->List Tx
 |x::xs,b::l=>if b=true then f x::pick f xs l else pick f xs l
 |_,_=>[]
theorem pick_mem{α:Type}(f:α->Tx)(s:Tx):∀(xs:List α) (l:List Bool),s∈pick f xs l<->∃i:Nat,∃h:i<xs.length,tru l i/\f xs[i]=s
 |[],l=>by cases l<;>simp[pick]
 |x::xs,[]=>by simp[pick,tru]
 |x::xs,b::l=>by
  have ih:=pick_mem f s xs l
  have tl:∀i,tru (b::l) (i+1)<->tru l i:=fun i=>by unfold tru;rw[List.getElem?_cons_succ]
  have key:(∃i:Nat,∃h:i<(x::xs).length,tru (b::l) i/\f (x::xs)[i]=s)<->(b=true/\f x=s)\/∃i:Nat,∃h:i<xs.length,tru l i/\f xs[i]=s:=by
   constructor
   ·rintro⟨i,h,h1,h2⟩
    cases i with
    |zero=>exact .inl ⟨by simpa[tru] using h1,h2⟩
    |succ i=>exact .inr ⟨i,by simpa using h,(tl i).1 h1,h2⟩
   ·rintro(⟨h1,h2⟩|⟨i,h,h1,h2⟩)
    ·exact⟨0,by simp,by simp[tru,h1],h2⟩
    ·exact⟨i+1,by simpa using h,(tl i).2 h1,h2⟩
  rw[key,pick]
  split
  ·rename_i hb;rw[List.mem_cons,ih];simp[hb,eq_comm]
  ·rename_i hb;rw[ih];simp[hb]
theorem drop_cons{α:Type}{xs:List α}{n:Nat}(h:n<xs.length):xs.drop n=xs[n]::xs.drop (n+1):=by simp
theorem pick_loop{α:Type}(xs:List α)(f:α->Tx)(hx:xs.length<=3000){R:Type}(k:List Tx->Option R)(L:List Bool->Int->List Tx->Option R)
  (h0:∀n o,L [] n o=k o) (h1:∀b l (n:Nat) o,L (b::l) n o=if b=true then (idx xs (n:Int)).bind fun x=>if (o++[f x]).length*16<=140737488355328 then L l ((n+1:Nat):Int) (o++[f x]) else none else L l ((n+1:Nat):Int) o):
  ∀(l:List Bool) (n:Nat) (o:List Tx),n+l.length<=xs.length->o.length<=n->L l n o=k (o++pick f (xs.drop n) l)
 |[],n,o,_,_=>by
  rw[h0]
  cases hd:xs.drop n<;>simp[pick]
 |b::l,n,o,hn,ho=>by
  simp only[List.length_cons] at hn
  have hlt:n<xs.length:=by omega
  rw[h1,drop_cons hlt,pick]
  by_cases hb:b=true
  ·rw[if_pos hb,if_pos hb,idx_nat hlt,Option.bind_some,if_pos (by simp;omega),pick_loop xs f hx k L h0 h1 l (n+1) _ (by omega) (by simp;omega)]
   simp
  ·rw[if_neg hb,if_neg hb,pick_loop xs f hx k L h0 h1 l (n+1) _ (by omega) (by omega)]
theorem opn_parts{g:TGraph}{how:Int}{fs:List Tx}(h:opnE g how fs=0):RightG g/\(how=1\/how=2):=by
 unfold opnE at h
 split at h
 ·rename_i h1;exact absurd h h1
 ·rename_i h1
  split at h
  ·rename_i h2;exact absurd h h2
  ·split at h
   ·rename_i h3;exact⟨right_of (by simpa using h1),h3⟩
   ·simp at h
theorem cpt_memI(l:List Int)(x:Int):x∈cpt l<->x∈l:=by
 unfold cpt Lib.compact Lib.compactUpTo
 rw[List.mem_map]
 constructor
 ·rintro⟨j,hj,rfl⟩
  have hlt:=List.mem_range.1 (List.mem_filter.1 hj).1
  rw[getElem!_pos l.toArray j (by simpa using hlt)]
  simp
 ·intro hx
  have key:∀j,j<l.length->∃i,i<=j/\Lib.keeps l.toArray i=true/\l.toArray[i]! = l.toArray[j]! := by
   intro j
   induction j with
   |zero=>exact fun _=>⟨0,Nat.le_refl _,by simp[Lib.keeps],rfl⟩
   |succ j ih=>
    intro hj
    by_cases he:l.toArray[j+1]! = l.toArray[j]!
    ·obtain⟨i,h1,h2,h3⟩:=ih (by omega)
     exact⟨i,by omega,h2,h3.trans he.symm⟩
    ·exact⟨j+1,Nat.le_refl _,by simp only[Lib.keeps,Nat.add_sub_cancel];exact decide_eq_true (.inr he),rfl⟩
  obtain⟨j,hj,rfl⟩:=List.getElem_of_mem hx
  obtain⟨i,h1,h2,h3⟩:=key j hj
  refine⟨i,List.mem_filter.2 ⟨List.mem_range.2 (by omega),h2⟩,?_⟩
  rw[h3,getElem!_pos l.toArray j (by simpa using hj)]
  simp
theorem cpt_srtI{l:List Int}(h:l.Pairwise (·<=·)):(cpt l).Pairwise (·<·):=by
 unfold cpt Lib.compact Lib.compactUpTo
 rw[List.pairwise_map]
 have hr:((List.range l.length).filter (Lib.keeps l.toArray)).Pairwise (·<·):=List.pairwise_lt_range.filter _
 refine List.Pairwise.imp_of_mem ?_ hr
 intro i j hi hj hlt
 have hj1:=List.mem_range.1 (List.mem_filter.1 hj).1
 have hj2:=(List.mem_filter.1 hj).2
 simp only[Lib.keeps,decide_eq_true_eq] at hj2
 have hne:l.toArray[j]! ≠ l.toArray[j - 1]! := hj2.resolve_left (by omega)
 rw[getElem!_pos l.toArray j (by simpa using hj1),getElem!_pos l.toArray (j - 1) (by simp;omega)] at hne
 rw[getElem!_pos l.toArray i (by simp;omega),getElem!_pos l.toArray j (by simpa using hj1)]
 simp only[List.getElem_toArray] at hne ⊢
 rw[List.pairwise_iff_getElem] at h
 have a1:l[j - 1]<=l[j]:=h (j - 1) j (by omega) hj1 (by omega)
 have a2:l[i]<=l[j - 1]:=by
  by_cases e:i=j - 1
  ·subst e;exact Int.le_refl _
  ·exact h i (j - 1) (by omega) (by omega) (by omega)
 omega
theorem isort_perm(l:List Int):(isort l).Perm l:=List.mergeSort_perm _ _
theorem isort_srt(l:List Int):(isort l).Pairwise (·<=·):=by
 have:=List.pairwise_mergeSort (le:=fun x y:Int=>decide (x<=y)) (fun a b c h h'=>by simp only[decide_eq_true_eq] at *;omega) (fun a b=>by simp only[Bool.or_eq_true,decide_eq_true_eq];omega) l
 exact this.imp (fun h=>by simpa using h)
theorem M18_L1_eq(F:Nat)(w:Treach_world)(c:TCall)(k:List Int->Option (List Int))(f:Int->Int):∀(l:List Int) (o:List Int),(∀t,t∈l->M47 F w c t=some (f t))->o.length+l.length<=100000->M18_L1 F w c k l o=k (o++l.map f)
 |[],o,_,_=>by simp[M18_L1]
 |t::l,o,h,hl=>by
  simp only[List.length_cons] at hl
  rw[M18_L1,h t (by simp),Option.bind_some,if_pos (by simp;omega),M18_L1_eq F w c k f l _ (fun t ht=>h t (List.mem_cons_of_mem _ ht)) (by simp;omega)]
  simp
structure TgtOk(g:TGraph)(c:TCall)(l:List Int):Prop where
 srt:l.Pairwise (·<·)
 len:l.length<=500
 nat:∀v,v∈l->∃i:Nat,i<g.Funcs.length/\v=i
 mem:∀i:Nat,∀h:i<g.Funcs.length,(i:Int)∈l<->∃a,a∈aimsG g c/\a.to=(g.Funcs[i]).Name
theorem cpt_lenI(l:List Int):(cpt l).length<=l.length:=cpt_len l
theorem M18_eq(F:Nat)(hF:1000<=F){g:TGraph}(R:RightG g)(how:Int)(fs:List Tx){x:TFunc}(hx:x∈g.Funcs){c:TCall}(hc:c∈x.Calls):∃l,M18 F (wOf g how fs) c=some l/\TgtOk g c l:=by
 unfold M18
 by_cases k:c.Kind=1
 ·rw[if_pos (by simp[k])]
  have ha:Tprovenderref6_aim.mk [] c.Target∈aimsG g c:=by unfold aimsG;rw[if_pos k];simp
  obtain⟨i,hi,he⟩:=fs_at (aim_fs R hx hc ha)
  have he:(g.Funcs[i]).Name=c.Target:=he
  have hf:(mget (wOf g how fs).funcs c.Target).getD 0=(i:Int):=by rw[<-he];exact fI_at R how fs hi
  refine⟨_,rfl,by simp,by simp,fun v hv=>?_,fun j hj=>?_⟩
  ·simp only[List.mem_singleton] at hv;rw[hf] at hv;exact⟨i,hi,hv⟩
  ·simp only[List.mem_singleton]
   rw[hf]
   unfold aimsG
   rw[if_pos k]
   simp only[List.mem_singleton]
   constructor
   ·intro h
    have:j=i:=by omega
    subst this
    exact⟨_,rfl,he.symm⟩
   ·rintro⟨a,rfl,h⟩
    have h:c.Target=(g.Funcs[j]).Name:=h
    have h1:=fI_at R how fs hj
    rw[<-h,<-he,fI_at R how fs hi] at h1
    omega
 ·rw[if_neg (by simpa using k),jn_def]
  obtain⟨I,I1,I2,I3,I4⟩:=dis_aim R hx hc k
  have hfit:∀t,t∈fitL (wOf g how fs) c.Target<->∃j:Nat,∃h:j<g.Types.length,t=j/\fitB g.Types[j] I=true:=fit_iff R how fs I2
  have hlen:(fitL (wOf g how fs) c.Target).length<=500:=by
   have e:fitL (wOf g how fs) c.Target=fitIdx I 0 g.Types:=by
    unfold fitL wOf
    simp only
    rw[fitM_get g.Types c.Target g.Ifaces [] R.isrt]
    simp only[mget,Option.getD_none,List.nil_append]
    rw[I2];rfl
   rw[e]
   have:=fitIdx_len I g.Types 0
   have:=R.tl
   omega
  let f:Int->Int:=fun t=>fI (wOf g how fs) (mOf (g.Types.getD t.toNat (TType.mk [] [])) c.Method).1
  have hm:∀t,t∈fitL (wOf g how fs) c.Target->M47 F (wOf g how fs) c t=some (f t):=by
   intro t ht
   obtain⟨j,hj,rfl,_⟩:=(hfit t).1 ht
   rw[M47_at hF R how fs c hj]
   simp only[f,Int.toNat_natCast,List.getD_eq_getElem?_getD,List.getElem?_eq_getElem hj,Option.getD_some]
  have e:=M18_L1_eq F (wOf g how fs) c (fun l5=>(M48 F l5).bind fun y17=>if y17.length=l5.length then (M49 F y17).bind fun y20=>some y20 else none) f (fitL (wOf g how fs) c.Target) [] hm (by simp;omega)
  refine⟨cpt (isort ((fitL (wOf g how fs) c.Target).map f)),?_,cpt_srtI (isort_srt _),?_,?_,?_⟩
  ·refine e.trans ?_
   simp only[List.nil_append]
   unfold M48
   rw[if_pos (by simp;omega),Option.bind_some,if_pos (isort_perm _).length_eq]
   unfold M49
   rw[if_pos (by rw[(isort_perm _).length_eq];simp;omega),Option.bind_some]
  ·have:=cpt_lenI (isort ((fitL (wOf g how fs) c.Target).map f))
   rw[(isort_perm _).length_eq,List.length_map] at this
   omega
  ·intro v hv
   rw[cpt_memI,(isort_perm _).mem_iff] at hv
   obtain⟨t,ht,rfl⟩:=List.mem_map.1 hv
   obtain⟨j,hj,rfl,hft⟩:=(hfit t).1 ht
   have ha:Tprovenderref6_aim.mk (g.Types[j]).Name (mOf g.Types[j] c.Method).1∈aimsG g c:=by
    unfold aimsG
    rw[if_neg k]
    exact List.mem_filterMap.2 ⟨g.Types[j],List.getElem_mem _,by unfold aimO;rw[if_pos ⟨I4 _ hft,by rw[I3];exact hft⟩]⟩
   obtain⟨q,hq,he⟩:=fs_at (aim_fs R hx hc ha)
   have he:(g.Funcs[q]).Name=(mOf g.Types[j] c.Method).1:=he
   refine⟨q,hq,?_⟩
   simp only[f,Int.toNat_natCast,List.getD_eq_getElem?_getD,List.getElem?_eq_getElem hj,Option.getD_some]
   rw[<-he];exact fI_at R how fs hq
  ·intro i hi
   rw[cpt_memI,(isort_perm _).mem_iff,List.mem_map]
   constructor
   ·rintro⟨t,ht,he⟩
    obtain⟨j,hj,rfl,hft⟩:=(hfit t).1 ht
    have ha:Tprovenderref6_aim.mk (g.Types[j]).Name (mOf g.Types[j] c.Method).1∈aimsG g c:=by
     unfold aimsG
     rw[if_neg k]
     exact List.mem_filterMap.2 ⟨g.Types[j],List.getElem_mem _,by unfold aimO;rw[if_pos ⟨I4 _ hft,by rw[I3];exact hft⟩]⟩
    obtain⟨q,hq,hqe⟩:=fs_at (aim_fs R hx hc ha)
    have hqe:(g.Funcs[q]).Name=(mOf g.Types[j] c.Method).1:=hqe
    simp only[f,Int.toNat_natCast,List.getD_eq_getElem?_getD,List.getElem?_eq_getElem hj,Option.getD_some] at he
    rw[<-hqe,fI_at R how fs hq] at he
    have:q=i:=by omega
    subst this
    exact⟨_,ha,hqe.symm⟩
   ·rintro⟨a,ha,he⟩
    unfold aimsG at ha
    rw[if_neg k] at ha
    obtain⟨t,ht,h⟩:=List.mem_filterMap.1 ha
    unfold aimO at h
    split at h
    ·rename_i h1
     simp only[Option.some.injEq] at h
     subst h
     obtain⟨j,hj,rfl⟩:=List.getElem_of_mem ht
     refine⟨j,(hfit _).2 ⟨j,hj,rfl,by rw[<-I3];exact h1.2⟩,?_⟩
     simp only[f,Int.toNat_natCast,List.getD_eq_getElem?_getD,List.getElem?_eq_getElem hj,Option.getD_some]
     have he:(mOf g.Types[j] c.Method).1=(g.Funcs[i]).Name:=he
     rw[he];exact fI_at R how fs hi
    ·simp at h
theorem nums_none{l:List Tx}{x:Tx}(h:x ∉ l):mget (nums [] 0 l) x=none:=by rw[nums_other x l [] 0 h];rfl
end Go.Proofs.YtcihpgamojpcnaaGreat
namespace Go.Pv
def sm{α:Type}(l:List α)(f:α->Int):Int:=l.foldr (fun x s=>f x+s) 0
theorem sm_nil{α:Type}(f:α->Int):sm [] f=0:=rfl
theorem sm_cons{α:Type}(x:α)(l:List α)(f:α->Int):sm (x::l) f=f x+sm l f:=rfl
theorem sm_congr{α:Type}{l:List α}{f g:α->Int}(h:∀x,x∈l->f x=g x):sm l f=sm l g:=by
 induction l with
 |nil=>rfl
 |cons x l ih=>rw[sm_cons,sm_cons,h x (List.mem_cons_self),ih (fun y hy=>h y (List.mem_cons_of_mem _ hy))]
theorem sm_add{α:Type}(l:List α)(f g:α->Int):sm l (fun x=>f x+g x)=sm l f+sm l g:=by
 induction l with
 |nil=>rfl
 |cons x l ih=>rw[sm_cons,sm_cons,sm_cons,ih];omega
theorem sm_neg{α:Type}(l:List α)(f:α->Int):sm l (fun x=>- f x) = - sm l f:=by
 induction l with
 |nil=>rfl
 |cons x l ih=>rw[sm_cons,sm_cons,ih];omega
theorem sm_zero{α:Type}(l:List α):sm l (fun _=>0)=0:=by
 induction l with
 |nil=>rfl
 |cons x l ih=>rw[sm_cons,ih];rfl
theorem sm_le{α:Type}{l:List α}{f g:α->Int}(h:∀x,x∈l->f x<=g x):sm l f<=sm l g:=by
 induction l with
 |nil=>exact Int.le_refl _
 |cons x l ih=>
  have h1:=h x List.mem_cons_self
  have h2:=ih (fun y hy=>h y (List.mem_cons_of_mem _ hy))
  rw[sm_cons,sm_cons];omega
theorem sm_eq_le{α:Type}{l:List α}{f g:α->Int}(h:∀x,x∈l->f x<=g x)(he:sm l g<=sm l f):∀x,x∈l->f x=g x:=by
 induction l with
 |nil=>simp
 |cons x l ih=>
  have h1:=h x List.mem_cons_self
  have h2:=sm_le (fun y hy=>h y (List.mem_cons_of_mem x hy))
  rw[sm_cons,sm_cons] at he
  intro y hy
  rcases List.mem_cons.1 hy with rfl|hy
  ·omega
  ·exact ih (fun y hy=>h y (List.mem_cons_of_mem _ hy)) (by omega) y hy
theorem sm_swap{α β:Type}(l:List α)(k:List β)(f:α->β->Int):sm l (fun x=>sm k (fun y=>f x y))=sm k (fun y=>sm l (fun x=>f x y)):=by
 induction l with
 |nil=>rw[sm_nil];exact(sm_zero k).symm
 |cons x l ih=>
  rw[sm_cons,ih,<-sm_add]
  exact sm_congr (fun y _=>by rw[sm_cons])
theorem sm_one{α:Type}[DecidableEq α]{l:List α}{a:α}(f:α->Int)(hd:l.Nodup)(ha:a∈l)(h:∀x,x∈l->x≠a->f x=0):sm l f=f a:=by
 induction l with
 |nil=>simp at ha
 |cons x l ih=>
  rw[sm_cons]
  obtain⟨h1,h2⟩:=List.nodup_cons.1 hd
  by_cases e:x=a
  ·subst e
   rw[sm_congr (g:=fun _=>0) (fun y hy=>h y (List.mem_cons_of_mem _ hy) (fun e=>h1 (e ▸ hy))),sm_zero];omega
  ·rw[h x List.mem_cons_self e,ih h2 (by rcases List.mem_cons.1 ha with h|h;exact absurd h.symm e;exact h) (fun y hy=>h y (List.mem_cons_of_mem _ hy))];omega
end Go.Pv
set_option linter.unusedSectionVars false
set_option linter.unusedVariables false
namespace Go.Pv
section
variable{σ φ:Type}[DecidableEq φ]
structure UV(Ls:List σ)(Fs:List φ)(fn:σ->φ)(tos:σ->φ->Prop)(Z:φ->Prop)(t:φ)(u:σ->Int)(v:σ->φ->Int):Prop where
 nd:Fs.Nodup
 inF:∀s,s∈Ls->fn s∈Fs
 u0:∀s,s∈Ls->0<=u s
 u1:∀s,s∈Ls->u s<=1
 v0:∀s,s∈Ls->∀y,y∈Fs->0<=v s y
 vt:∀s,s∈Ls->∀y,y∈Fs->0<v s y->tos s y
 sum:∀s,s∈Ls->u s=sm Fs (v s)
 con:∀f,f∈Fs->¬Z f->f≠t->sm Ls (fun s=>(if fn s=f then u s else 0) - v s f)=0
structure UCl(Ls:List σ)(Fs:List φ)(fn:σ->φ)(tos:σ->φ->Prop)(Z:φ->Prop)(t:φ)(u:σ->Int)(v:σ->φ->Int)(S:φ->Bool)(T:σ->Bool):Prop where
 z:∀f,f∈Fs->Z f->S f=true
 t:S t=false
 a:∀s,s∈Ls->S (fn s)=true->u s=0->T s=true
 b:∀s,s∈Ls->T s=true->∀y,y∈Fs->tos s y->S y=true
 c:∀s,s∈Ls->T s=true->u s=1->S (fn s)=true
 d:∀s,s∈Ls->∀y,y∈Fs->S y=true->0<v s y->T s=true
variable{Ls:List σ}{Fs:List φ}{fn:σ->φ}{tos:σ->φ->Prop}{Z:φ->Prop}{t:φ}
def uc(Fs:List φ)(fn:σ->φ)(u:σ->Int)(v:σ->φ->Int)(S:φ->Bool)(s:σ):Int:=(if S (fn s)=true then u s else 0) - sm Fs (fun y=>if S y=true then v s y else 0)
def ucut(fn:σ->φ)(S:φ->Bool)(T:σ->Bool)(s:σ):Bool:=S (fn s)&&!T s
theorem sm_sub{α:Type}(l:List α)(f g:α->Int):sm l (fun x=>f x - g x)=sm l f - sm l g:=by
 have h:sm l (fun x=>f x - g x)=sm l (fun x=>f x + - g x):=sm_congr fun _ _=>by omega
 rw[h,sm_add,sm_neg];omega
theorem sm_nonneg{α:Type}{l:List α}{f:α->Int}(h:∀x,x∈l->0<=f x):0<=sm l f:=by
 have:=sm_le (l:=l) (f:=fun _=>0) (g:=f) h
 rw[sm_zero] at this;exact this
theorem sm_ge{α:Type}{l:List α}{f:α->Int}(h:∀x,x∈l->0<=f x){x:α}(hx:x∈l):f x<=sm l f:=by
 induction l with
 |nil=>simp at hx
 |cons y l ih=>
  rw[sm_cons]
  have h2:=sm_nonneg (fun z hz=>h z (List.mem_cons_of_mem _ hz))
  have h3:=h y List.mem_cons_self
  rcases List.mem_cons.1 hx with e|e
  ·subst e;omega
  ·have:=ih (fun z hz=>h z (List.mem_cons_of_mem _ hz)) e;omega
theorem sm_zero'{α:Type}{l:List α}{f:α->Int}(h:∀x,x∈l->f x=0):sm l f=0:=by rw[sm_congr (g:=fun _=>0) h,sm_zero]
theorem sm_ind{α:Type}(l:List α)(p:α->Bool):sm l (fun x=>if p x=true then 1 else 0)=((l.filter p).length:Int):=by
 induction l with
 |nil=>rfl
 |cons x l ih=>
  rw[sm_cons,ih,List.filter_cons]
  cases p x<;>simp<;>omega
theorem UV.val{u:σ->Int}{v:σ->φ->Int}(h:UV Ls Fs fn tos Z t u v)(S S':φ->Bool)(hz:∀f,f∈Fs->Z f->S f=true)(hz':∀f,f∈Fs->Z f->S' f=true)(ht:S t=false)(ht':S' t=false):
  sm Ls (uc Fs fn u v S)=sm Ls (uc Fs fn u v S'):=by
 have key:∀S:φ->Bool,sm Ls (uc Fs fn u v S)=sm Fs (fun f=>if S f=true then sm Ls (fun s=>(if fn s=f then u s else 0) - v s f) else 0):=by
  intro S
  have e:sm Fs (fun f=>if S f=true then sm Ls (fun s=>(if fn s=f then u s else 0) - v s f) else 0)=sm Fs (fun f=>sm Ls (fun s=>if S f=true then (if fn s=f then u s else 0) - v s f else 0)):=by
   refine sm_congr fun f _=>?_
   split
   ·rfl
   ·exact(sm_zero _).symm
  rw[e,sm_swap]
  refine(sm_congr fun s hs=>?_).symm
  unfold uc
  have e1:sm Fs (fun f=>if S f=true then (if fn s=f then u s else 0) - v s f else 0)=sm Fs (fun f=>(if S f=true then (if fn s=f then u s else 0) else 0) - (if S f=true then v s f else 0)):=by
   refine sm_congr fun f _=>?_
   split<;>simp
  rw[e1,sm_sub,sm_one (a:=fn s) _ h.nd (h.inF s hs) (fun x _ hx=>by
   split
   ·rw[if_neg (fun e=>hx e.symm)]
   ·rfl)]
  simp
 rw[key,key]
 refine sm_congr fun f hf=>?_
 by_cases z:Z f
 ·rw[if_pos (hz f hf z),if_pos (hz' f hf z)]
 ·by_cases e:f=t
  ·subst e;rw[if_neg (by simp[ht]),if_neg (by simp[ht'])]
  ·rw[h.con f hf z e];simp
theorem UV.in_all{u:σ->Int}{v:σ->φ->Int}(h:UV Ls Fs fn tos Z t u v){S:φ->Bool}{s:σ}(hs:s∈Ls)(ht:∀y,y∈Fs->tos s y->S y=true):sm Fs (fun y=>if S y=true then v s y else 0)=u s:=by
 rw[h.sum s hs]
 refine sm_congr fun y hy=>?_
 split
 ·rfl
 ·rename_i n
  have:=h.v0 s hs y hy
  by_cases p:0<v s y
  ·exact absurd (ht y hy (h.vt s hs y hy p)) n
  ·omega
theorem UV.in_nn{u:σ->Int}{v:σ->φ->Int}(h:UV Ls Fs fn tos Z t u v)(S:φ->Bool){s:σ}(hs:s∈Ls):∀y,y∈Fs->0<=(if S y=true then v s y else 0):=by
 intro y hy
 split
 ·exact h.v0 s hs y hy
 ·omega
theorem UV.uc_le{u:σ->Int}{v:σ->φ->Int}(h:UV Ls Fs fn tos Z t u v){S:φ->Bool}{T:σ->Bool}(hb:∀s,s∈Ls->T s=true->S (fn s)=true->∀y,y∈Fs->tos s y->S y=true):∀s,s∈Ls->uc Fs fn u v S s<=(if ucut fn S T s=true then 1 else 0):=by
 intro s hs
 unfold uc ucut
 have n0:=sm_nonneg (h.in_nn S hs)
 cases hS:S (fn s)<;>cases hT:T s
 ·simp;omega
 ·simp;omega
 ·have:=h.u1 s hs;simp;omega
 ·rw[h.in_all hs (hb s hs hT hS)];simp
theorem UV.uc_eq{u:σ->Int}{v:σ->φ->Int}(h:UV Ls Fs fn tos Z t u v){S:φ->Bool}{T:σ->Bool}(c:UCl Ls Fs fn tos Z t u v S T):∀s,s∈Ls->uc Fs fn u v S s=(if ucut fn S T s=true then 1 else 0):=by
 intro s hs
 unfold uc ucut
 have k1:=h.u0 s hs
 have k2:=h.u1 s hs
 have no:T s=false->sm Fs (fun y=>if S y=true then v s y else 0)=0:=fun hT=>sm_zero' fun y hy=>by
  split
  ·rename_i hy'
   have:=h.v0 s hs y hy
   by_cases p:0<v s y
   ·have:=c.d s hs y hy hy' p;rw[hT] at this;simp at this
   ·omega
  ·rfl
 cases hS:S (fn s)<;>cases hT:T s
 ·rw[no hT];simp
 ·rw[h.in_all hs (c.b s hs hT)]
  by_cases e:u s=1
  ·have:=c.c s hs hT e;rw[hS] at this;simp at this
  ·simp;omega
 ·rw[no hT]
  by_cases e:u s=0
  ·have:=c.a s hs hS e;rw[hT] at this;simp at this
  ·simp;omega
 ·rw[h.in_all hs (c.b s hs hT)];simp
theorem UV.val_cut{u:σ->Int}{v:σ->φ->Int}(h:UV Ls Fs fn tos Z t u v){S:φ->Bool}{T:σ->Bool}(c:UCl Ls Fs fn tos Z t u v S T):sm Ls (uc Fs fn u v S)=((Ls.filter (ucut fn S T)).length:Int):=by
 rw[sm_congr (h.uc_eq c),sm_ind]
theorem UV.no_fewer{u:σ->Int}{v:σ->φ->Int}(h:UV Ls Fs fn tos Z t u v){S:φ->Bool}{T:σ->Bool}(c:UCl Ls Fs fn tos Z t u v S T){R:φ->Bool}(L:σ->Bool)(hz:∀f,f∈Fs->Z f->R f=true)(ht:R t=false)
  (hb:∀s,s∈Ls->L s=false->R (fn s)=true->∀y,y∈Fs->tos s y->R y=true):(Ls.filter (ucut fn S T)).length<=(Ls.filter L).length:=by
 have e1:=h.val S R c.z hz c.t ht
 rw[h.val_cut c] at e1
 have e2:=sm_le (h.uc_le (S:=R) (T:=fun s=>!L s) (fun s hs hT=>hb s hs (by simpa using hT)))
 have e3:sm Ls (fun s=>if ucut fn R (fun s=>!L s) s=true then (1:Int) else 0)<=sm Ls (fun s=>if L s=true then 1 else 0):=sm_le fun s hs=>by
  unfold ucut
  cases R (fn s)<;>cases hL:L s<;>simp[hL]
 rw[sm_ind Ls L] at e3
 omega
theorem UV.closed{u u':σ->Int}{v v':σ->φ->Int}(h:UV Ls Fs fn tos Z t u v)(h':UV Ls Fs fn tos Z t u' v'){S S':φ->Bool}{T T':σ->Bool}(c:UCl Ls Fs fn tos Z t u v S T)(c':UCl Ls Fs fn tos Z t u' v' S' T'):UCl Ls Fs fn tos Z t u' v' S T:=by
 have e1:=h.val S S' c.z c'.z c.t c'.t
 have e2:=h'.val S S' c.z c'.z c.t c'.t
 have v1:=sm_congr (h.uc_eq c)
 have v2:=sm_congr (h'.uc_eq c')
 have l1:=sm_le (h.uc_le (S:=S') (T:=T') (fun s hs hT _=>c'.b s hs hT))
 have l2:=h'.uc_le (S:=S) (T:=T) (fun s hs hT _=>c.b s hs hT)
 have key:=sm_eq_le l2 (by omega)
 have n0:=fun s hs=>sm_nonneg (h'.in_nn S (s:=s) hs)
 refine⟨c.z,c.t,fun s hs hS hu=>?_,c.b,fun s hs hT hu=>?_,fun s hs y hy hS hv=>?_⟩
 ·have k:=key s hs
  have:=n0 s hs
  unfold uc ucut at k
  rw[hS,if_pos rfl,hu] at k
  cases hT:T s
  ·rw[hT] at k;simp at k;omega
  ·rfl
 ·have k:=key s hs
  unfold uc ucut at k
  rw[h'.in_all hs (c.b s hs hT),hT] at k
  cases hS:S (fn s)
  ·rw[hS] at k;simp at k;omega
  ·rfl
 ·have k:=key s hs
  have g:=sm_ge (h'.in_nn S (s:=s) hs) hy
  simp only[hS,if_true] at g
  have:=h'.u1 s hs
  unfold uc ucut at k
  cases hT:T s
  ·rw[hT] at k
   cases hS':S (fn s)
   ·rw[hS'] at k;simp at k;omega
   ·rw[hS'] at k;simp at k;omega
  ·rfl
end
end Go.Pv
set_option linter.unusedSectionVars false
set_option linter.unusedVariables false
namespace Go.Pv
theorem sm_filter{α:Type}(l:List α)(p:α->Bool)(f:α->Int):sm (l.filter p) f=sm l (fun x=>if p x=true then f x else 0):=by
 induction l with
 |nil=>rfl
 |cons x l ih=>
  rw[List.filter_cons,sm_cons,<-ih]
  cases p x<;>simp[sm_cons]
section
variable{σ φ:Type}[DecidableEq φ]{Ls:List σ}{Fs:List φ}{fn:σ->φ}{tos:σ->φ->Prop}{Z:φ->Prop}{t:φ}
theorem UV.more{p:σ->Bool}{u:σ->Int}{v:σ->φ->Int}(h:UV (Ls.filter p) Fs fn tos Z t u v)(hin:∀s,s∈Ls->fn s∈Fs):UV Ls Fs fn tos Z t (fun s=>if p s=true then u s else 0) (fun s y=>if p s=true then v s y else 0):=by
 refine⟨h.nd,hin,fun s hs=>?_,fun s hs=>?_,fun s hs y hy=>?_,fun s hs y hy hv=>?_,fun s hs=>?_,fun f hf hz ht=>?_⟩
 ·split
  ·exact h.u0 s (List.mem_filter.2 ⟨hs,by assumption⟩)
  ·omega
 ·split
  ·exact h.u1 s (List.mem_filter.2 ⟨hs,by assumption⟩)
  ·omega
 ·split
  ·exact h.v0 s (List.mem_filter.2 ⟨hs,by assumption⟩) y hy
  ·omega
 ·split at hv
  ·exact h.vt s (List.mem_filter.2 ⟨hs,by assumption⟩) y hy hv
  ·omega
 ·split
  ·exact h.sum s (List.mem_filter.2 ⟨hs,by assumption⟩)
  ·exact(sm_zero _).symm
 ·have:=h.con f hf hz ht
  rw[sm_filter] at this
  refine Eq.trans (sm_congr fun s _=>?_) this
  cases p s<;>simp
theorem UCl.more{p:σ->Bool}{r:φ->Bool}{u:σ->Int}{v:σ->φ->Int}{S:φ->Bool}{T:σ->Bool}(h:UCl (Ls.filter p) Fs fn tos Z t u v S T)(hin:∀s,s∈Ls->fn s∈Fs)(hp:∀s,s∈Ls->p s=r (fn s))(hz:∀f,f∈Fs->Z f->r f=true)(hr:∀s,s∈Ls->r (fn s)=true->∀y,y∈Fs->tos s y->r y=true):
  UCl Ls Fs fn tos Z t (fun s=>if p s=true then u s else 0) (fun s y=>if p s=true then v s y else 0) (fun f=>S f&&r f) (fun s=>T s&&p s):=by
 refine⟨fun f hf hzf=>?_,?_,fun s hs hS hu=>?_,fun s hs hT y hy hty=>?_,fun s hs hT hu=>?_,fun s hs y hy hS hv=>?_⟩
 ·simp[h.z f hf hzf,hz f hf hzf]
 ·simp[h.t]
 ·simp only[Bool.and_eq_true] at hS ⊢
  have q:p s=true:=by rw[hp s hs];exact hS.2
  rw[if_pos q] at hu
  exact⟨h.a s (List.mem_filter.2 ⟨hs,q⟩) hS.1 hu,q⟩
 ·simp only[Bool.and_eq_true] at hT ⊢
  exact⟨h.b s (List.mem_filter.2 ⟨hs,hT.2⟩) hT.1 y hy hty,hr s hs (by rw[<-hp s hs];exact hT.2) y hy hty⟩
 ·simp only[Bool.and_eq_true] at hT ⊢
  rw[if_pos hT.2] at hu
  exact⟨h.c s (List.mem_filter.2 ⟨hs,hT.2⟩) hT.1 hu,by rw[<-hp s hs];exact hT.2⟩
 ·simp only[Bool.and_eq_true] at hS ⊢
  split at hv
  ·rename_i q
   exact⟨h.d s (List.mem_filter.2 ⟨hs,q⟩) y hy hS.1 hv,q⟩
  ·omega
theorem UCl.less{p:σ->Bool}{u:σ->Int}{v:σ->φ->Int}{S:φ->Bool}{T:σ->Bool}(h:UCl Ls Fs fn tos Z t (fun s=>if p s=true then u s else 0) (fun s y=>if p s=true then v s y else 0) S T):UCl (Ls.filter p) Fs fn tos Z t u v S T:=by
 refine⟨h.z,h.t,fun s hs hS hu=>?_,fun s hs hT y hy hty=>?_,fun s hs hT hu=>?_,fun s hs y hy hS hv=>?_⟩
 ·have q:=List.mem_filter.1 hs;exact h.a s q.1 hS (by rw[if_pos q.2];exact hu)
 ·have q:=List.mem_filter.1 hs;exact h.b s q.1 hT y hy hty
 ·have q:=List.mem_filter.1 hs;exact h.c s q.1 hT (by rw[if_pos q.2];exact hu)
 ·have q:=List.mem_filter.1 hs;exact h.d s q.1 y hy hS (by rw[if_pos q.2];exact hv)
end
end Go.Pv
namespace Go.Proofs.YtcihpgamojpcnaaGreat
open Go Go.Pv
set_option linter.unusedVariables false
abbrev Gr:=List (List Treach_arc)
abbrev Eg:=Nat×Nat×Int
abbrev Dt:=Nat×Bool
def at2(G:Gr)(i p:Nat):Option Treach_arc:=(G[i]?).bind (·[p]?)
def eg(E:List Eg)(k:Nat):Eg:=(E[k]?).getD (0,0,0)
def frm(E:List Eg)(d:Dt):Nat:=if d.2=true then (eg E d.1).2.1 else (eg E d.1).1
def tow(E:List Eg)(d:Dt):Nat:=if d.2=true then (eg E d.1).1 else (eg E d.1).2.1
def lft(E:List Eg)(fl:Nat->Int)(d:Dt):Int:=if d.2=true then fl d.1 else (eg E d.1).2.2 - fl d.1
def rev(d:Dt):Dt:=(d.1,!d.2)
def sndf(fl:Nat->Int)(d:Dt):Nat->Int:=fun k=>if k=d.1 then (if d.2=true then fl k - 1 else fl k+1) else fl k
def ex(E:List Eg)(fl:Nat->Int)(n:Nat):Int:=sm (List.range E.length) (fun k=>(if (eg E k).2.1=n then fl k else 0) - (if (eg E k).1=n then fl k else 0))
structure NetI(N:Nat)(E:List Eg)(ps:Dt->Nat)(fl:Nat->Int)(G:Gr):Prop where
 len:G.length=N
 ne:∀d:Dt,d.1<E.length->frm E d≠tow E d
 lt:∀d:Dt,d.1<E.length->frm E d<N
 at_:∀d:Dt,d.1<E.length->at2 G (frm E d) (ps d)=some (Treach_arc.mk (tow E d) (lft E fl d) (ps (rev d)))
 all:∀i p a,at2 G i p=some a->∃d:Dt,d.1<E.length/\frm E d=i/\ps d=p
 inj:∀d d':Dt,d.1<E.length->d'.1<E.length->frm E d=frm E d'->ps d=ps d'->d=d'
 pos:∀d:Dt,d.1<E.length->0<=lft E fl d
 cap:∀k,k<E.length->(eg E k).2.2<=1099511627776
 rl:∀(i:Nat) (row:List Treach_arc),G[i]? = some row->row.length<=E.length
theorem rev_rev(d:Dt):rev (rev d)=d:=by unfold rev;simp
theorem frm_rev(E:List Eg)(d:Dt):frm E (rev d)=tow E d:=by
 obtain⟨k,b⟩:=d
 cases b<;>simp[frm,tow,rev]
theorem tow_rev(E:List Eg)(d:Dt):tow E (rev d)=frm E d:=by
 obtain⟨k,b⟩:=d
 cases b<;>simp[frm,tow,rev]
theorem lft_sum(E:List Eg)(fl:Nat->Int)(d:Dt):lft E fl d+lft E fl (rev d)=(eg E d.1).2.2:=by
 obtain⟨k,b⟩:=d
 cases b<;>simp[lft,rev]<;>omega
theorem lft_send(E:List Eg)(fl:Nat->Int)(d d':Dt):lft E (sndf fl d) d'=if d'=d then lft E fl d - 1 else if d'=rev d then lft E fl d'+1 else lft E fl d':=by
 obtain⟨k,b⟩:=d
 obtain⟨k',b'⟩:=d'
 by_cases h:k'=k
 ·subst h
  cases b<;>cases b'<;>simp[lft,rev,sndf]<;>omega
 ·simp[lft,rev,sndf,h]
theorem ex_send(E:List Eg)(fl:Nat->Int)(d:Dt)(hd:d.1<E.length)(n:Nat):ex E (sndf fl d) n=ex E fl n+(if tow E d=n then 1 else 0) - (if frm E d=n then 1 else 0):=by
 have h:ex E (sndf fl d) n - ex E fl n=(if tow E d=n then 1 else 0) - (if frm E d=n then 1 else 0):=by
  unfold ex
  rw[<-sm_sub,sm_one (a:=d.1) _ List.nodup_range (List.mem_range.2 hd) (fun k _ hk=>by unfold sndf;rw[if_neg hk];omega)]
  obtain⟨k,b⟩:=d
  cases b
  ·simp only[sndf,tow,frm,if_true]
   simp only[Bool.false_eq_true,if_false]
   split<;>split<;>omega
  ·simp only[sndf,tow,frm,if_true]
   split<;>split<;>omega
 omega
theorem NetI.towlt{N:Nat}{E:List Eg}{ps:Dt->Nat}{fl:Nat->Int}{G:Gr}(I:NetI N E ps fl G){d:Dt}(hd:d.1<E.length):tow E d<N:=by
 rw[<-frm_rev];exact I.lt (rev d) hd
theorem NetI.le{N:Nat}{E:List Eg}{ps:Dt->Nat}{fl:Nat->Int}{G:Gr}(I:NetI N E ps fl G){d:Dt}(hd:d.1<E.length):lft E fl d<=1099511627776:=by
 have h1:=lft_sum E fl d
 have h2:=I.pos (rev d) hd
 have h3:=I.cap d.1 hd
 omega
theorem NetI.ex_le{N:Nat}{E:List Eg}{ps:Dt->Nat}{fl:Nat->Int}{G:Gr}(I:NetI N E ps fl G)(n:Nat):ex E fl n<=1099511627776*(E.length:Int):=by
 have h:ex E fl n<=sm (List.range E.length) (fun _=>1099511627776):=by
  unfold ex
  refine sm_le fun k hk=>?_
  have hk:=List.mem_range.1 hk
  have h1:0<=fl k:=by have:=I.pos (k,true) hk;simpa[lft] using this
  have h2:=I.le (d:=(k,true)) hk
  have h2:fl k<=1099511627776:=by simpa[lft] using h2
  split<;>split<;>omega
 have e:∀(l:List Nat),sm l (fun _=>(1099511627776:Int))=1099511627776*(l.length:Int):=by
  intro l
  induction l with
  |nil=>rfl
  |cons x l ih=>rw[sm_cons,ih,List.length_cons];omega
 rw[e,List.length_range] at h
 exact h
theorem at2_row{G:Gr}{i p:Nat}{a:Treach_arc}(h:at2 G i p=some a):∃row:List Treach_arc,G[i]? = some row/\row[p]? = some a:=by
 unfold at2 at h
 cases hr:G[i]? with
 |none=>rw[hr] at h;simp at h
 |some row=>rw[hr] at h;exact⟨row,rfl,h⟩
theorem at2_set{G:Gr}{i p:Nat}{row:List Treach_arc}(a:Treach_arc)(hr:G[i]? = some row)(hp:p<row.length)(i' p':Nat):
  at2 (G.set i (row.set p a)) i' p'=if i'=i/\p'=p then some a else at2 G i' p':=by
 have hi:=(List.getElem?_eq_some_iff.1 hr).1
 unfold at2
 rw[List.getElem?_set]
 by_cases e:i=i'
 ·subst e
  rw[if_pos rfl,if_pos hi,hr,Option.bind_some,Option.bind_some,List.getElem?_set]
  by_cases e:p=p'
  ·subst e;simp[hp]
  ·rw[if_neg e,if_neg (fun q=>e q.2.symm)]
 ·rw[if_neg e,if_neg (fun q=>e q.1.symm)]
theorem idx_q{α:Type}{l:List α}{i:Nat}{x:α}(h:l[i]? = some x):idx l (i:Int)=some x:=by
 obtain⟨hi,e⟩:=List.getElem?_eq_some_iff.1 h
 rw[idx_nat hi,e]
def sendM(G:Gr)(a1 x74:Int)(nx:List Int):Option (Bool×Gr×List Int):=
 (idx G a1).bind fun x87=>(idx x87 x74).bind fun y89=>(idx (G.set a1.toNat (x87.set x74.toNat (Treach_arc.mk y89.to (w64 (y89.left - 1)) y89.back))) a1).bind fun x91=>(idx x91 x74).bind fun y93=>(idx (G.set a1.toNat (x87.set x74.toNat (Treach_arc.mk y89.to (w64 (y89.left - 1)) y89.back))) y93.to).bind fun x95=>(idx x95 y93.back).bind fun y97=>some (true,((G.set a1.toNat (x87.set x74.toNat (Treach_arc.mk y89.to (w64 (y89.left - 1)) y89.back))).set y93.to.toNat (x95.set y93.back.toNat (Treach_arc.mk y97.to (w64 (y97.left+1)) y97.back))),nx)
theorem send_ok{N:Nat}{E:List Eg}{ps:Dt->Nat}{fl:Nat->Int}{G:Gr}(I:NetI N E ps fl G){d:Dt}(hd:d.1<E.length)(h:0<lft E fl d)(nx:List Int):
    ∃G',sendM G (frm E d) (ps d) nx=some (true,G',nx)/\NetI N E ps (sndf fl d) G'/\∀(i:Nat) (row:List Treach_arc),G[i]? = some row->∃row':List Treach_arc,G'[i]? = some row'/\row'.length=row.length:=by
  obtain⟨row,hr,hp⟩:=at2_row (I.at_ d hd)
  obtain⟨row',hr',hp'⟩:=at2_row (I.at_ (rev d) hd)
  rw[frm_rev] at hr'
  rw[tow_rev,rev_rev] at hp'
  have hne:=I.ne d hd
  have l1:=(List.getElem?_eq_some_iff.1 hp).1
  have l2:=(List.getElem?_eq_some_iff.1 hp').1
  have hi:=(List.getElem?_eq_some_iff.1 hr).1
  have hi':=(List.getElem?_eq_some_iff.1 hr').1
  have b1:=I.le hd
  have b2:=I.le (d:=rev d) hd
  have b3:=I.pos (rev d) hd
  have w1:w64 (lft E fl d - 1)=lft E fl d - 1:=w64_id (by omega) (by omega)
  have w2:w64 (lft E fl (rev d)+1)=lft E fl (rev d)+1:=w64_id (by omega) (by omega)
  have q1:∀a,(G.set (frm E d) (row.set (ps d) a))[frm E d]? = some (row.set (ps d) a):=fun a=>by rw[List.getElem?_set_self hi]
  have q2:∀a,(row.set (ps d) a)[ps d]? = some a:=fun a=>by rw[List.getElem?_set_self l1]
  have q3:∀a,(G.set (frm E d) (row.set (ps d) a))[tow E d]? = some row':=fun a=>by rw[List.getElem?_set_ne hne];exact hr'
  refine⟨(G.set (frm E d) (row.set (ps d) (Treach_arc.mk (tow E d) (lft E fl d - 1) (ps (rev d))))).set (tow E d) (row'.set (ps (rev d)) (Treach_arc.mk (frm E d) (lft E fl (rev d)+1) (ps d))),?_,?_⟩
  · unfold sendM
    rw[idx_q hr,Option.bind_some,idx_q hp,Option.bind_some]
    simp only[Int.toNat_natCast]
    rw[w1,idx_q (q1 _),Option.bind_some,idx_q (q2 _),Option.bind_some]
    simp only[Int.toNat_natCast]
    rw[idx_q (q3 _),Option.bind_some,idx_q hp',Option.bind_some]
    simp only
    rw[w2]
  · have key:∀i p,at2 ((G.set (frm E d) (row.set (ps d) (Treach_arc.mk (tow E d) (lft E fl d - 1) (ps (rev d))))).set (tow E d) (row'.set (ps (rev d)) (Treach_arc.mk (frm E d) (lft E fl (rev d)+1) (ps d)))) i p =
        if i=tow E d/\p=ps (rev d) then some (Treach_arc.mk (frm E d) (lft E fl (rev d)+1) (ps d)) else if i=frm E d/\p=ps d then some (Treach_arc.mk (tow E d) (lft E fl d - 1) (ps (rev d))) else at2 G i p:=fun i p=>by
      rw[at2_set _ (q3 _) l2,at2_set _ hr l1]
    have rows:∀(i:Nat) (row0:List Treach_arc),G[i]? = some row0->∃row1:List Treach_arc,((G.set (frm E d) (row.set (ps d) (Treach_arc.mk (tow E d) (lft E fl d - 1) (ps (rev d))))).set (tow E d) (row'.set (ps (rev d)) (Treach_arc.mk (frm E d) (lft E fl (rev d)+1) (ps d))))[i]? = some row1/\row1.length=row0.length:=by
      intro i row0 h0
      rw[List.getElem?_set]
      by_cases e:tow E d=i
      · subst e
        rw[if_pos rfl,if_pos (by simpa using hi')]
        refine⟨_,rfl,?_⟩
        rw[h0] at hr';cases hr';simp
      · rw[if_neg e,List.getElem?_set]
        by_cases e:frm E d=i
        · subst e
          rw[if_pos rfl,if_pos hi]
          refine⟨_,rfl,?_⟩
          rw[h0] at hr;cases hr;simp
        · rw[if_neg e];exact⟨_,h0,rfl⟩
    refine⟨⟨by simpa using I.len,I.ne,I.lt,fun d' hd'=>?_,fun i p a ha=>?_,I.inj,fun d' hd'=>?_,I.cap,fun i r hr0=>?_⟩,rows⟩
    · rw[key,lft_send]
      by_cases e:d'=d
      · subst e
        rw[if_neg (fun q=>hne q.1),if_pos ⟨rfl,rfl⟩,if_pos rfl]
      · rw[if_neg e]
        by_cases e':d'=rev d
        · subst e'
          rw[if_pos ⟨frm_rev E d,rfl⟩,if_pos rfl,rev_rev,tow_rev]
        · rw[if_neg e',if_neg (fun q=>e' (I.inj _ _ hd' hd (by rw[q.1,frm_rev]) q.2)),if_neg (fun q=>e (I.inj _ _ hd' hd q.1 q.2))]
          exact I.at_ d' hd'
    · rw[key] at ha
      split at ha
      · rename_i q;exact⟨rev d,hd,by rw[frm_rev,q.1],q.2.symm⟩
      · split at ha
        · rename_i q;exact⟨d,hd,q.1.symm,q.2.symm⟩
        · exact I.all i p a ha
    · rw[lft_send]
      have:=I.pos d' hd'
      split
      · omega
      · split<;>omega
    · rw[List.getElem?_set] at hr0
      split at hr0
      · split at hr0
        · simp only[Option.some.injEq] at hr0
          subst hr0
          have:=I.rl _ _ hr'
          simpa using this
        · simp at hr0
      · rw[List.getElem?_set] at hr0
        split at hr0
        · simp only[Option.some.injEq] at hr0
          subst hr0
          have:=I.rl _ _ hr
          simpa using this
        · exact I.rl _ _ hr0
def lvl(lev:List Int)(n:Nat):Int:=lev.getD n (-1)
theorem idx_lvl{lev:List Int}{n:Nat}(h:n<lev.length):idx lev (n:Int)=some (lvl lev n):=by
 rw[idx_nat h];unfold lvl;rw[List.getD_eq_getElem?_getD,List.getElem?_eq_getElem h];rfl
def adm(E:List Eg)(fl:Nat->Int)(lev:List Int)(d:Dt):Prop:=0<lft E fl d/\lvl lev (tow E d)=lvl lev (frm E d)+1
inductive Pth(E:List Eg)(fl:Nat->Int)(lev:List Int)(t:Nat):Nat->Prop
 |here:Pth E fl lev t t
 |step {d:Dt} (hd:d.1<E.length) (ha:adm E fl lev d) (h:Pth E fl lev t (tow E d)):Pth E fl lev t (frm E d)
def NxOk(G:Gr)(nx:List Int):Prop:=∀(i:Nat) (row:List Treach_arc),G[i]? = some row->∃q:Nat,nx[i]? = some (q:Int)/\q<=row.length
def Dead(E:List Eg)(ps:Dt->Nat)(fl:Nat->Int)(lev:List Int)(t:Nat)(nx:List Int):Prop:=∀d:Dt,d.1<E.length->∀q:Nat,nx[frm E d]? = some (q:Int)->ps d<q->adm E fl lev d->¬Pth E fl lev t (tow E d)
def PushS(N:Nat)(E:List Eg)(ps:Dt->Nat)(lev:List Int)(t i:Nat)(fl:Nat->Int)(G:Gr)(nx:List Int)(r:Option (Bool×Gr×List Int)):Prop:=
 ∃b G' nx',r=some (b,G',nx')/\NxOk G' nx'/\(∀n,n<N->lvl lev n<lvl lev i->nx'[n]? = nx[n]?)/\
  (b=false->G'=G/\(Dead E ps fl lev t nx->Dead E ps fl lev t nx'/\¬Pth E fl lev t i))/\
  (b=true->∃fl',NetI N E ps fl' G'/\(∀n,ex E fl' n=ex E fl n+(if t=n then 1 else 0) - (if i=n then 1 else 0))/\∀d:Dt,d.1<E.length->lvl lev (frm E d)<lvl lev i->lft E fl' d=lft E fl d)
section
variable{N:Nat}{E:List Eg}{ps:Dt->Nat}{lev:List Int}{t:Nat}
theorem PushS.mono{i:Nat}{fl:Nat->Int}{G:Gr}{nx nx2:List Int}{r:Option (Bool×Gr×List Int)}(h:PushS N E ps lev t i fl G nx2 r)(h1:∀n,n<N->lvl lev n<lvl lev i->nx2[n]? = nx[n]?)(h2:Dead E ps fl lev t nx->Dead E ps fl lev t nx2):PushS N E ps lev t i fl G nx r:=by
 obtain⟨b,G',nx',e,a1,a2,a3,a4⟩:=h
 exact⟨b,G',nx',e,a1,fun n hn hl=>(a2 n hn hl).trans (h1 n hn hl),fun hb=>⟨(a3 hb).1,fun hd=>(a3 hb).2 (h2 hd)⟩,a4⟩
theorem push_loop(hE:E.length<=1000000000)(hN:N<=1000000000)(ht:t<N)(hlev:lev.length=N)(hb:∀n,n<N->lvl lev n<(N:Int)){F i:Nat}(hi:i<N)(hit:i≠t)(h0:0<=lvl lev i)
  (IH:∀(j:Nat) (G:Gr) (nx:List Int) (fl:Nat->Int),NetI N E ps fl G->NxOk G nx->j<N->lvl lev j=lvl lev i+1->PushS N E ps lev t j fl G nx (M51 F j t G lev nx)) {G:Gr} {fl:Nat->Int} (I:NetI N E ps fl G) {row:List Treach_arc} (hr:G[i]? = some row):
  ∀(n:Nat) (nx:List Int) (q:Nat),NxOk G nx->nx[i]? = some (q:Int)->row.length<n+q->PushS N E ps lev t i fl G nx (M51_L1 (M51 F) F i t lev (fun l58 l59=>some (false,l58,l59)) n G nx)
 |0,nx,q,hn,hq,hm=>by
  obtain⟨q',h1,h2⟩:=hn i row hr
  rw[hq] at h1
  simp only[Option.some.injEq] at h1
  omega
 |n+1,nx,q,hn,hq,hm=>by
  have hrl:=I.rl i row hr
  rw[M51_L1,idx_q hq,Option.bind_some,idx_q hr,Option.bind_some]
  by_cases hlt:q<row.length
  ·rw[if_pos (by simpa using hlt)]
   have ha2:at2 G i q=some row[q]:=by unfold at2;rw[hr,Option.bind_some,List.getElem?_eq_getElem hlt]
   obtain⟨d,hd,hf,hp⟩:=I.all _ _ _ ha2
   subst hf;subst hp
   have ea:=I.at_ d hd
   rw[ha2] at ea
   simp only[Option.some.injEq] at ea
   have hrow:row[ps d]? = some (Treach_arc.mk (tow E d) (lft E fl d) (ps (rev d))):=by rw[List.getElem?_eq_getElem hlt,ea]
   have hset:∀nx':List Int,NxOk G nx'->nx'[frm E d]? = some (ps d:Int)->NxOk G (nx'.set (frm E d) ((ps d+1:Nat):Int)):=by
    intro nx' hn' hq' i' row' hr'
    rw[List.getElem?_set]
    by_cases e:frm E d=i'
    ·subst e
     rw[if_pos rfl,if_pos (List.getElem?_eq_some_iff.1 hq').1]
     rw[hr] at hr';cases hr'
     exact⟨_,rfl,hlt⟩
    ·rw[if_neg e];exact hn' i' row' hr'
   have hdead:∀nx':List Int,nx'[frm E d]? = some (ps d:Int)->Dead E ps fl lev t nx'->(adm E fl lev d->¬Pth E fl lev t (tow E d))->Dead E ps fl lev t (nx'.set (frm E d) ((ps d+1:Nat):Int)):=by
    intro nx' hq' hD hno d' hd' q' h1 h2 h3
    rw[List.getElem?_set] at h1
    by_cases e:frm E d=frm E d'
    ·rw[if_pos e,if_pos (List.getElem?_eq_some_iff.1 hq').1] at h1
     simp only[Option.some.injEq] at h1
     by_cases e2:ps d'=ps d
     ·have:=I.inj d' d hd' hd e.symm e2
      subst this
      exact hno h3
     ·exact hD d' hd' (ps d) (by rw[<-e];exact hq') (by omega) h3
    ·rw[if_neg e] at h1
     exact hD d' hd' q' h1 h2 h3
   have hset':∀nx':List Int,∀n,n<N->lvl lev n<lvl lev (frm E d)->(nx'.set (frm E d) ((ps d+1:Nat):Int))[n]? = nx'[n]?:=by
    intro nx' n _ hl
    rw[List.getElem?_set_ne]
    intro e;subst e;omega
   have hw:∀q:Nat,q<=1000000000->w64 ((q:Int)+1)=((q+1:Nat):Int):=fun q hq=>by rw[w64_id (by omega) (by omega)];omega
   have ih:=push_loop hE hN ht hlev hb hi hit h0 IH I hr n
   simp only[jn_def]
   rw[Option.bind_some,Option.bind_some,idx_q hrow,Option.bind_some]
   simp only
   have skip:(adm E fl lev d->False)->PushS N E ps lev t (frm E d) fl G nx ((idx nx (frm E d:Int)).bind fun x99=>(idx nx (frm E d:Int)).bind fun x101=>M51_L1 (M51 F) F (frm E d) t lev (fun l58 l59=>some (false,l58,l59)) n G (nx.set (frm E d:Int).toNat (w64 (x99+1)))):=by
    intro hno
    rw[idx_q hq,Option.bind_some,Option.bind_some,Int.toNat_natCast,hw _ (by omega)]
    refine(ih _ (ps d+1) (hset nx hn hq) ?_ (by omega)).mono (hset' nx) (fun hD=>hdead nx hq hD (fun h=>(hno h).elim))
    rw[List.getElem?_set_self (List.getElem?_eq_some_iff.1 hq).1]
   by_cases hl:0<lft E fl d
   ·rw[if_pos (by simpa using hl)]
    have htw:=I.towlt hd
    rw[idx_lvl (by rw[hlev];exact htw),Option.bind_some,idx_lvl (by rw[hlev];exact hi),Option.bind_some]
    have hbi:=hb _ hi
    rw[w64_id (by omega) (by omega)]
    by_cases hv:lvl lev (tow E d)=lvl lev (frm E d)+1
    ·rw[if_pos (by simpa using hv)]
     obtain⟨b,G',nx',e,p1,p2,p3,p4⟩:=IH (tow E d) G nx fl I hn htw hv
     rw[e,Option.bind_some]
     cases b with
     |true=>
      simp only[if_true]
      obtain⟨fl',I',hex,hsame⟩:=p4 rfl
      have hl':0<lft E fl' d:=by rw[hsame d hd (by omega)];exact hl
      obtain⟨G'',e2,I'',hrows⟩:=send_ok I' hd hl' nx'
      refine⟨true,G'',nx',e2,?_,fun n hn hl=>p2 n hn (by omega),fun h=>by simp at h,fun _=>⟨_,I'',fun n=>?_,fun d' hd' hlow=>?_⟩⟩
      ·intro i' row' hr'
       have hi':i'<G'.length:=by rw[I'.len,<-I''.len];exact(List.getElem?_eq_some_iff.1 hr').1
       obtain⟨row2,h1,h2⟩:=hrows i' _ (List.getElem?_eq_getElem hi')
       rw[hr'] at h1;cases h1
       rw[h2];exact p1 i' _ (List.getElem?_eq_getElem hi')
      ·rw[ex_send E fl' d hd,hex];omega
      ·rw[lft_send,if_neg (fun e=>by subst e;omega),if_neg (fun e=>by subst e;rw[frm_rev] at hlow;omega)]
       exact hsame d' hd' (by omega)
     |false=>
      simp only[Bool.false_eq_true,if_false]
      obtain⟨eG,hD⟩:=p3 rfl
      subst eG
      have hq':nx'[frm E d]? = some (ps d:Int):=by rw[p2 _ hi (by omega)];exact hq
      rw[idx_q hq',Option.bind_some,Option.bind_some,Int.toNat_natCast,hw _ (by omega)]
      refine(ih _ (ps d+1) (hset nx' p1 hq') ?_ (by omega)).mono (fun n hn hl=>(hset' nx' n hn hl).trans (p2 n hn (by omega))) (fun hD0=>hdead nx' hq' (hD hD0).1 (fun _=>(hD hD0).2))
      rw[List.getElem?_set_self (List.getElem?_eq_some_iff.1 hq').1]
    ·rw[if_neg (by simpa using hv)]
     exact skip (fun h=>hv h.2)
   ·rw[if_neg (by simpa using hl)]
    exact skip (fun h=>hl h.1)
  ·rw[if_neg (by simpa using hlt)]
   refine⟨false,G,nx,rfl,hn,fun _ _ _=>rfl,fun _=>⟨rfl,fun hD=>⟨hD,fun hp=>?_⟩⟩,fun h=>by simp at h⟩
   cases hp with
   |here=>exact hit rfl
   | @step d hd ha h=>
    obtain⟨row',h1,h2⟩:=at2_row (I.at_ d hd)
    rw[hr] at h1;cases h1
    exact hD d hd q hq (by have:=(List.getElem?_eq_some_iff.1 h2).1;omega) ha h
theorem push_ok(hE:E.length<=1000000000)(hN:N<=1000000000)(ht:t<N)(hlev:lev.length=N)(hb:∀n,n<N->lvl lev n<(N:Int)):
  ∀(D F i:Nat) (G:Gr) (nx:List Int) (fl:Nat->Int),NetI N E ps fl G->NxOk G nx->i<N->0<=lvl lev i->(N:Int)<=D+lvl lev i->D+E.length+3<=F->PushS N E ps lev t i fl G nx (M51 F i t G lev nx)
 |0,F,i,G,nx,fl,I,hn,hi,h0,hD,hF=>by
  have:=hb i hi
  omega
 |D+1,0,i,G,nx,fl,I,hn,hi,h0,hD,hF=>by omega
 |D+1,F+1,i,G,nx,fl,I,hn,hi,h0,hD,hF=>by
  rw[M51,M51_B]
  by_cases e:i=t
  ·subst e
   rw[if_pos (by simp)]
   exact⟨true,G,nx,rfl,hn,fun _ _ _=>rfl,fun h=>by simp at h,fun _=>⟨fl,I,fun n=>by omega,fun _ _ _=>rfl⟩⟩
  ·rw[if_neg (by simp;omega),jn_def]
   have hi':i<G.length:=by rw[I.len];exact hi
   obtain⟨q,h1,h2⟩:=hn i _ (List.getElem?_eq_getElem hi')
   have hrl:=I.rl i _ (List.getElem?_eq_getElem hi')
   exact push_loop hE hN ht hlev hb hi e h0 (fun j G nx fl I hn hj hv=>push_ok hE hN ht hlev hb D F j G nx fl I hn hj (by omega) (by omega) (by omega)) I (List.getElem?_eq_getElem hi') F nx q hn h1 (by omega)
end
end Go.Proofs.YtcihpgamojpcnaaGreat
