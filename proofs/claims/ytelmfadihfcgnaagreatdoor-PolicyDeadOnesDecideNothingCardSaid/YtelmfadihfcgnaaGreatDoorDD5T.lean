/- Part of the proof: YS, D5T. -/
import Derived.Test.YtelmfadihfcgnaaGreatDoorDYH
import Derived.Test.YtelmfadihfcgnaaGreatDoorDDK
import Derived.Shelf.SlIter.Sorted
import Derived.Test.YtelmfadihfcgnaaGreatDoorDZA
import Derived.Test.YtelmfadihfcgnaaGreatDoorDWA
import Derived.Test.YtelmfadihfcgnaaGreatDoorDDN
import Derived.Test.YtelmfadihfcgnaaGreatDoorProg
import Derived.KernelRfl
namespace Go.Pv
open Go Go.RowKit Go.Maps Go.Sort Go.Proofs
set_option linter.unusedVariables false
set_option linter.unusedSimpArgs false
def sKeys{τ:Type}(xs:List (List UInt8×τ)):Option (List (List UInt8)):=
 if xs.length*16<=140737488355328/\(∀p,p∈xs->p.1.length<=140737488355328) then some (tsort (xs.map (·.1))) else none
def RKeys(v:Value):Option (DataW Unit×List MemPlace):=some (.lit (.bool true),[])
theorem imap_own{P:Program}{m:Mem}{w:World}{k:TypeId}{xs:List (List UInt8)}{es:List (Value×V)}{v:Value}(hk:P.underlying k=some .string)(himm:∀(b:Nat) o,m b=some o->w.heap[b]? = some o)(he:es.map (·.1)=xs.map str)
  (hn:xs.length<=maxLen) (hl:∀x,x∈xs->x.length<=maxLen) (h:IRel m (.imap es) v):
  ∃b D,v=.map (some b)/\b<w.heap.size/\w.ownsMap P k RKeys b xs.length D/\(strKeys D).Perm xs/\Maps.size D=xs.length:=by
 cases h with
 | @imap es b ents clock hm hln hkk h=>
 obtain⟨E,h1,h2,h3⟩:=hm
 have hkeys:ents.toList.map (·.key)=xs.map str:=by
  rw[<-he]
  apply List.ext_getElem?
  intro i
  rw[List.getElem?_map,List.getElem?_map]
  cases hi:es[i]? with
  |none=>
   have:ents.toList[i]? = none:=by
    rw[List.getElem?_eq_none_iff] at hi ⊢
    simpa[<-hln] using hi
   rw[this];rfl
  |some p=>
   have hlt:i<ents.size:=by rw[<-hln];exact(List.getElem?_eq_some_iff.1 hi).1
   have hx:ents[i]? = some ents[i]:=Array.getElem?_eq_getElem hlt
   have:=hkk i p _ hi hx
   rw[Array.getElem?_toList,hx]
   simp[this]
 have hsz:E.size=xs.length:=by
  have a1:=h2.length_eq
  have a2:=congrArg List.length hkeys
  simp at a1 a2
  omega
 have hread:∀e∈E.toList,∃x,x∈xs/\e.key=str x:=by
  intro e hE
  have:e∈ents.toList:=h2.mem_iff.2 hE
  have:e.key∈ents.toList.map (·.key):=List.mem_map_of_mem this
  rw[hkeys] at this
  obtain⟨x,hx,e2⟩:=List.mem_map.1 this
  exact⟨x,hx,e2.symm⟩
 have hrd:∀e∈E.toList,∀x,x.length<=maxLen->e.key=str x->WideElems.rd P k RKeys e=some (.string x,.lit (.bool true)):=by
  intro e _ x hx hex
  have:keyOf P k e.key=some (.string x):=by
   rw[hex]
   unfold keyOf
   rw[hk]
   simp only[mapKey,hk]
   simp[ByteArray.size,hx]
  unfold WideElems.rd
  rw[this]
  rfl
 refine⟨b,.map ((E.toList.map (WideElems.rg P k RKeys)).foldr DataW.insert []),rfl,lt_of_some (himm _ _ h1),⟨E,clock,himm _ _ h1,⟨by omega,⟨fun x hx=>h3.lt x hx,h3.born,h3.key⟩,fun x hx=>?_⟩,by omega,rfl⟩,?_,?_⟩
 ·obtain⟨y,hy,e⟩:=hread x hx
  exact⟨_,hrd x hx y (hl y hy) e⟩
 ·have p1:=Go.WideShapes.sorted_perm (E.toList.map (WideElems.rg P k RKeys))
  have p2:(strKeys (DataW.map ((E.toList.map (WideElems.rg P k RKeys)).foldr DataW.insert []))).Perm ((E.toList.map (WideElems.rg P k RKeys)).map fun p=>strOf p.1):=p1.map _
  refine p2.trans ?_
  rw[List.map_map]
  have p3:(E.toList.map ((fun p=>strOf p.1) ∘ WideElems.rg P k RKeys)).Perm (ents.toList.map ((fun p=>strOf p.1) ∘ WideElems.rg P k RKeys)):=(h2.symm).map _
  refine p3.trans (List.Perm.of_eq ?_)
  apply List.ext_getElem?
  intro i
  have hk2:=congrArg (fun l=>l[i]?) hkeys
  simp only[List.getElem?_map] at hk2 ⊢
  cases hi:xs[i]? with
  |none=>rw[hi] at hk2;simp at hk2;simp[hk2]
  |some x=>
   rw[hi] at hk2
   cases hx:ents.toList[i]? with
   |none=>rw[hx] at hk2;simp at hk2
   |some e=>
    rw[hx] at hk2
    simp only[Option.map_some,Option.some.injEq] at hk2 ⊢
    have hmem:e∈E.toList:=h2.mem_iff.1 (List.mem_of_getElem? hx)
    have:=hrd e hmem x (hl x (List.mem_of_getElem? hi)) hk2
    simp only[Function.comp,WideElems.rg,this,Option.getD_some,strOf]
 ·rw[size_eq]
  rw[(Go.WideShapes.sorted_perm _).length_eq,List.length_map]
  simpa using hsz
section
variable{K:Ctx}{Q:Post}{S:St}
variable{ops:Array Oper}{rest:List Oper}{ty ty2:TypeId}{pos pos2:String}{after after2:Array Edge}{g g2:Option (Nat×Bool)}
theorem aops_sortedKeys{ρ6 ρ7 ρ10:Go.Shelf.Ren}(L6:Go.Proofs.SlLaysZ.n6 K.P ρ6)(L7:Go.Proofs.SlLaysZ.n7 K.P ρ7)(L10:Go.Proofs.SlLaysZ.n10 K.P ρ10){f6 f7 f10 f9:Nat}{d1 d2:Nat}{x:Operand}{at1 at2:Array TypeId}{es:List (Value×V)}(xs:List (List UInt8))
  (e6:ρ6.f 6=f6) (e9:ρ6.f 9=f9) (e7:ρ7.f 7=f7) (e10:ρ7.f 10=f10) (e10':ρ10.f 10=f10) (et:ρ10.t 26=ρ6.t 26)
  (hs1:∀(blk off cap:Nat) (zs:List (List UInt8)) (w:World),Holds str w blk off zs.toArray->blk<w.heap.size->zs.length<4611686018427387904->Calls K.P f9 #[.slice (some ⟨blk,off,none⟩) zs.length cap] w fun e w'=>
   e=.returned (.tuple #[])/\∃n os,w'=grow (putRow str (Sort.ahead w n) blk off (zs.mergeSort fun x y=>decide (x<=y)).toArray) os)
  (hs2:∀(p:Option Addr) (cap:Nat) (w:World),Calls K.P f9 #[.slice p 0 cap] w fun e w'=>e=.returned (.tuple #[])/\w'=w)
  (ef7:fnOk K.P f7=true) (ef6:fnOk K.P f6=true) (ef9:∀args w,(callFunc f9 args).run K.P w=.ok (.enter f9 args) w)
  (hc:xs.length*16<=140737488355328/\∀x,x∈xs->x.length<=140737488355328) (he:es.map (·.1)=xs.map str)
  (hw1:Wants ops S ⟨some d1,.call ⟨.value (.func f7),#[x],at1⟩,ty,pos,after,g⟩ true) (hw2:Wants ops (S.put d1 .any) ⟨some d2,.call ⟨.value (.func f6),#[.tmp d1],at2⟩,ty2,pos2,after2,g2⟩ true)
  (hx:evl K S x=.imap es) (hN1:Nat.blt d1 K.N=true) (hN2:Nat.blt d2 K.N=true)
  (kk:AOps K ops rest Q ((S.put d1 .any).put d2 (.lst 1 ((tsort xs).map fun s=>[sV s])))):
  AOps K ops (⟨some d1,.call ⟨.value (.func f7),#[x],at1⟩,ty,pos,after,g⟩::⟨some d2,.call ⟨.value (.func f6),#[.tmp d1],at2⟩,ty2,pos2,after2,g2⟩::rest) Q S:=by
 subst e6 e9 e7 e10
 have hml:(140737488355328:Nat)<=maxLen:=by unfold maxLen;decide
 intro m β w a r
 unfold wpListIn
 rw[if_pos (hw1.at r)]
 obtain⟨vs,h1,h2⟩:=call_run (d:=some d1) (at':=at1) (ty:=ty) (pos:=pos) (after:=after) (g:=g) ef7 (args:=#[x]) (avs:=[.imap es]) (by simp[hx]) (.cons (Imm.imap _) .nil) m β w a r
 have hvs:∃v,vs=#[v]/\IRel m (.imap es) v:=by
  have hl:=h2.len
  obtain⟨l⟩:=vs
  match l,hl with
  |[v],_=>exact⟨v,rfl,h2.at' 0 _ _ rfl rfl⟩
 obtain⟨v,rfl,hv⟩:=hvs
 obtain⟨b,D,rfl,hb,hown,hperm,hsize⟩:=imap_own L10.t26 r.imm he (Nat.le_trans (by omega) hml) (fun y hy=>Nat.le_trans (hc.2 y hy) hml) hv
 refine op_in (.inr (nd_run h1 (fun d e=>by cases e))) ?_
 unfold Oper.wp
 rw[h1]
 refine(callsIn_wide.1 (AnyZ.keys_in L7 Fence.wide 1 trivial rfl (some b) w)).mono ?_
 rintro e w1 ⟨rfl,rfl⟩
 simp only[]
 have g1:Grew m m w (w.alloc (.cells #[.map (some b)] (ρ7.t 23))):=⟨Mem.le_refl _,fun c o h=>by
   have hh:=r.imm c o h
   have:=lt_of_some hh
   show((w.heap.push _))[c]? = _
   rw[Array.getElem?_push,if_neg (by omega)];exact hh,fun _ _=>rfl,fun c hc=>by
   show((w.heap.push _))[c]? = _
   rw[Array.getElem?_push,if_neg (by omega)],by simp,⟨rfl,rfl,rfl,trivial⟩⟩
 have r1:=(r.grow g1).put hN1 (dv:=.any) (v:=.func (.func (ρ7.f 10)) #[] #[.pointer (some ⟨w.heap.size,0,none⟩)]) (.imm (.any _))
 show wpListIn _ _ _ _ _ _ _ _
 unfold wpListIn
 rw[if_pos (hw2.at r1)]
 have hev:(a.put (some d1) (.func (.func (ρ7.f 10)) #[] #[.pointer (some ⟨w.heap.size,0,none⟩)])).eval (.tmp d1)=.func (.func (ρ7.f 10)) #[] #[.pointer (some ⟨w.heap.size,0,none⟩)]:=by
  have hlt:d1<a.tmps.size:=by rw[r.tn];exact Nat.le_of_ble_eq_true hN1
  simp[Act.put,Act.eval,hlt]
 have h3:(execOp (a.put (some d1) (.func (.func (ρ7.f 10)) #[] #[.pointer (some ⟨w.heap.size,0,none⟩)])).eval ⟨some d2,.call ⟨.value (.func (ρ6.f 6)),#[.tmp d1],at2⟩,ty2,pos2,after2,g2⟩).run K.P (w.alloc (.cells #[.map (some b)] (ρ7.t 23)))=.ok (.enter (ρ6.f 6) #[.func (.func (ρ7.f 10)) #[] #[.pointer (some ⟨w.heap.size,0,none⟩)]]) (w.alloc (.cells #[.map (some b)] (ρ7.t 23))):=by
  have hef:(a.put (some d1) (.func (.func (ρ7.f 10)) #[] #[.pointer (some ⟨w.heap.size,0,none⟩)])).eval (.func (ρ6.f 6))=.func (.func (ρ6.f 6)) #[] #[]:=rfl
  simp only[execOp,resolve,List.map_toArray,List.map_cons,List.map_nil,hev,hef,Deferred.ofValue,invoke,Sem.run_bind,pure,Sem.run,Result.andThen_ok]
  simp[run_enter ef6]
 refine op_in (.inr (nd_run h3 (fun d e=>by cases e))) ?_
 unfold Oper.wp
 rw[h3]
 have e10f:∀args w,(callFunc (ρ7.f 10) args).run K.P w=.ok (.enter (ρ7.f 10) args) w:=fun args w=>by rw[<-e10'];exact L10.f10.enters rfl args w
 have hown1:(w.alloc (.cells #[.map (some b)] (ρ7.t 23))).ownsMap K.P (ρ10.t 26) RKeys b xs.length D:=by
  obtain⟨es',clock,q1,q2⟩:=hown
  exact⟨es',clock,by rw[<-q1];exact g1.heap b hb,q2⟩
 have hbx:(w.alloc (.cells #[.map (some b)] (ρ7.t 23))).heap[w.heap.size]? = some (.cells #[.map (some b)] (ρ7.t 23)):=by
  show(w.heap.push _)[_]? = _
  simp
 have hcb:(w.alloc (.cells #[.map (some b)] (ρ7.t 23))).cell? ⟨w.heap.size,0,none⟩=some (.map (some b)):=by
  simp only[World.cell?,hbx]
  rfl
 have hg:=AnyZ.keys_gives L10 Fence.wide 1 trivial rfl (Nat.le_refl _) w.heap.size b xs.length D (R:=RKeys) (w.alloc (.cells #[.map (some b)] (ρ7.t 23))) (by simp) hcb hown1
 rw[e10'] at hg
 refine(callsIn_wide.1 (AnyZ.sorted_in L6 Fence.wide 4 trivial trivial trivial trivial rfl (Nat.le_refl _) ⟨fun blk off cap ss W q1 q2 q3=>callsIn_wide.2 (hs1 blk off cap ss W q1 q2 q3),fun p cap W=>callsIn_wide.2 (hs2 p cap W)⟩ ef9 (ρ7.f 10) _ trivial e10f _ (Maps.size D) (by rw[hsize];omega) (by rw[hsize];exact hc.1) _ hg)).mono ?_
 rintro e w2 ⟨v2,ss,rfl,hss,hrow,hnil,hbel⟩
 have hts:ss.mergeSort (fun x y=>decide (x<=y))=tsort xs:=mergeSort_of_perm (hss.trans hperm)
 rw[hts] at hrow
 have hsl:ss.length=xs.length:=by rw[(hss.trans hperm).length_eq]
 have htl:(tsort xs).length=xs.length:=List.length_mergeSort _
 simp only[]
 rcases hrow.2 with ⟨rfl,hz⟩|⟨gb,cap,cur,rfl,hbase,hgb,q1,q2,q3,q4⟩
 ·have hx0:xs=[]:=List.length_eq_zero_iff.1 (by omega)
  subst hx0
  refine kk m β w2 _ ((r1.grow (grew_below r1.imm hbel trivial)).put hN2 (.imm ?_))
  show IRel m (.lst 1 ((tsort []).map _)) _
  rw[show tsort []=[] from List.length_eq_zero_iff.1 htl]
  exact .nil _ _ _
 ·let m':Mem:=fun c=>if c=gb then some (.cells cur (ρ6.t 26) (0,0)) else m c
  have hnone:m gb=none:=by
   cases hm:m gb with
   |none=>rfl
   |some o=>have:=lt_of_some (r1.imm _ _ hm);omega
  have hle:m.le m':=by
   intro c o h
   have:c≠gb:=by intro e;rw[e,hnone] at h;cases h
   show(if _ then _ else _)=_
   rw[if_neg this];exact h
  have gr:Grew m m' (w.alloc (.cells #[.map (some b)] (ρ7.t 23))) w2:=by
   refine⟨hle,fun c o h=>?_,fun c hc=>?_,hbel.block,hbel.size,⟨hbel.os,hbel.tape,hbel.output,trivial⟩⟩
   ·by_cases ec:c=gb
    ·subst ec
     have:m' c=some (.cells cur (ρ6.t 26) (0,0)):=by show(if _ then _ else _)=_;rw[if_pos rfl]
     rw[this] at h;cases h;exact hgb
    ·have:m' c=m c:=by show(if _ then _ else _)=_;rw[if_neg ec]
     rw[this] at h
     rw[hbel.block c (lt_of_some (r1.imm c o h))];exact r1.imm c o h
   ·show(if _ then _ else _)=_
    rw[if_neg (by omega)]
  refine kk m' β w2 _ ((r1.grow gr).put hN2 (.imm ?_))
  have hcur:∀(i:Nat) (y:List UInt8),(tsort xs)[i]? = some y->cur[i]? = some (str y):=by
   intro i y hy
   have h5:=congrArg (fun l=>l[i]?) q4
   simp only[Nat.mul_one,List.getElem?_map,hy,Option.map_some,List.getElem?_take] at h5
   split at h5
   ·rw[Array.getElem?_toList] at h5;exact h5
   ·cases h5
  refine .lst (arr:=cur) (T:=ρ6.t 26) (fr:=(0,0)) (fun i=>(cur[i]?).getD undef) (show(if _ then _ else _)=_ by rw[if_pos rfl]) rfl (by simp[htl,hsl]) q1 (Nat.le_trans q1 q2) ?_ ?_ ?_
  ·intro row hr
   obtain⟨y,_,rfl⟩:=List.mem_map.1 hr
   rfl
  ·intro i hi
   rw[List.length_map,Nat.mul_one] at hi
   have:=hcur i _ (List.getElem?_eq_getElem hi)
   simp[this]
  ·intro i j row c hi hj
   rw[List.getElem?_map] at hi
   cases hy:(tsort xs)[i]? with
   |none=>rw[hy] at hi;cases hi
   |some y=>
    rw[hy] at hi
    simp only[Option.map_some,Option.some.injEq] at hi
    subst hi
    cases j with
    |succ j=>simp at hj
    |zero=>
     simp only[List.getElem?_cons_zero,Option.some.injEq] at hj
     subst hj
     rw[Nat.mul_one,Nat.add_zero,hcur i y hy]
     exact .con _
end
end Go.Pv
namespace Go.Pv
open Go Go.RowKit Go.Maps Go.Sort Go.Proofs
set_option linter.unusedVariables false
theorem sKeys_some{τ:Type}{xs:List (List UInt8×τ)}{l:List (List UInt8)}(h:sKeys xs=some l):(xs.length*16<=140737488355328/\∀p,p∈xs->p.1.length<=140737488355328)/\l=tsort (xs.map (·.1)):=by
 unfold sKeys at h
 split at h
 ·rename_i hc;exact⟨hc,(Option.some.inj h).symm⟩
 ·cases h
section
variable{K:Ctx}{Q:Post}{S:St}
variable{ops:Array Oper}{rest:List Oper}{ty ty2:TypeId}{pos pos2:String}{after after2:Array Edge}{g g2:Option (Nat×Bool)}
theorem aops_sortedM{τ:Type}{enc:List UInt8->List V}{E:List UInt8×τ->Value×V}{xs:List (List UInt8×τ)}{l:List (List UInt8)}(hl:sKeys xs=some l)(henc:∀s,enc s=[sV s])(hE:∀p,(E p).1=str p.1)
  {ρ6 ρ7 ρ10:Go.Shelf.Ren} (L6:Go.Proofs.SlLaysZ.n6 K.P ρ6) (L7:Go.Proofs.SlLaysZ.n7 K.P ρ7) (L10:Go.Proofs.SlLaysZ.n10 K.P ρ10) {f6 f7 f10 f9:Nat} {d1 d2:Nat} {x:Operand} {at1 at2:Array TypeId}
  (e6:ρ6.f 6=f6) (e9:ρ6.f 9=f9) (e7:ρ7.f 7=f7) (e10:ρ7.f 10=f10) (e10':ρ10.f 10=f10) (et:ρ10.t 26=ρ6.t 26)
  (hs1:∀(blk off cap:Nat) (zs:List (List UInt8)) (w:World),Holds str w blk off zs.toArray->blk<w.heap.size->zs.length<4611686018427387904->Calls K.P f9 #[.slice (some ⟨blk,off,none⟩) zs.length cap] w fun e w'=>
   e=.returned (.tuple #[])/\∃n os,w'=grow (putRow str (Sort.ahead w n) blk off (zs.mergeSort fun x y=>decide (x<=y)).toArray) os)
  (hs2:∀(p:Option Addr) (cap:Nat) (w:World),Calls K.P f9 #[.slice p 0 cap] w fun e w'=>e=.returned (.tuple #[])/\w'=w)
  (ef7:fnOk K.P f7=true) (ef6:fnOk K.P f6=true) (ef9:fnOk K.P f9=true)
  (hw1:Wants ops S ⟨some d1,.call ⟨.value (.func f7),#[x],at1⟩,ty,pos,after,g⟩ true) (hw2:Wants ops (S.put d1 .any) ⟨some d2,.call ⟨.value (.func f6),#[.tmp d1],at2⟩,ty2,pos2,after2,g2⟩ true)
  (hx:evl K S x=.imap (xs.map E)) (hN1:Nat.blt d1 K.N=true) (hN2:Nat.blt d2 K.N=true)
  (kk:AOps K ops rest Q ⟨(d2,.lst 1 (l.map enc))::(d1,.any)::S.env,S.hp,S.nx⟩):
  AOps K ops (⟨some d1,.call ⟨.value (.func f7),#[x],at1⟩,ty,pos,after,g⟩::⟨some d2,.call ⟨.value (.func f6),#[.tmp d1],at2⟩,ty2,pos2,after2,g2⟩::rest) Q S:=by
 obtain⟨⟨h1,h2⟩,rfl⟩:=sKeys_some hl
 refine aops_sortedKeys L6 L7 L10 (xs.map (·.1)) e6 e9 e7 e10 e10' et hs1 hs2 ef7 ef6 (fun args w=>run_enter ef9 args) ⟨by simpa using h1,fun y hy=>?_⟩ ?_ hw1 hw2 hx hN1 hN2 ?_
 ·obtain⟨p,hp,rfl⟩:=List.mem_map.1 hy;exact h2 p hp
 ·rw[List.map_map,List.map_map];exact List.map_congr_left fun p _=>hE p
 ·have:enc=fun s=>[sV s]:=funext henc
  rw[this] at kk;exact kk
end
end Go.Pv
namespace Go.Proofs.YtelmfadihfcgnaaGreatDoor
open Go Go.Pv
set_option linter.unusedVariables false
set_option maxRecDepth 100000
theorem mixed:Tryz.prog.follows .mixedOrders=true:=by kernel_rfl
structure TTest where
 Kind:Int
 Name:(List UInt8)
 Texts:(List (List UInt8))
 Op:Int
 N:Int
 Kids:(List KRow)
structure TPolicyRule where
 Name:(List UInt8)
 About:(List UInt8)
 When:TTest
 Level:Int
structure TWaiver where
 Rule:(List UInt8)
 Subject:(List UInt8)
 From:Int
 To:Int
 Owner:(List UInt8)
 Level:Int
 deriving DecidableEq
structure TPolicy where
 Rules:(List TPolicyRule)
 Waivers:(List TWaiver)
structure TPair where
 Name:(List UInt8)
 Value:(List UInt8)
 deriving DecidableEq
structure TAmount where
 Name:(List UInt8)
 N:Int
 deriving DecidableEq
structure TFact where
 Kind:(List UInt8)
 Subject:(List UInt8)
 Texts:(List TPair)
 Numbers:(List TAmount)
 deriving DecidableEq
structure Tpolicy_uses where
 name:Bool
 texts:Bool
 number:Bool
 kids:Int
 deriving DecidableEq
structure Tpolicy_subject where
 is:(List (List UInt8))
 begins:(List (List UInt8))
 numbers:(List Int)
 asText:Bool
 asNo:Bool
 has:Bool
 weight:Int
 deriving DecidableEq
structure Tpolicy_condIs where
 name:(List UInt8)
 texts:(List (List UInt8))
 deriving DecidableEq
structure Tpolicy_condBegins where
 name:(List UInt8)
 texts:(List (List UInt8))
 deriving DecidableEq
structure Tpolicy_condHas where
 name:(List UInt8)
 deriving DecidableEq
structure Tpolicy_condNumber where
 name:(List UInt8)
 op:Int
 n:Int
 deriving DecidableEq
structure Tpolicy_condNot where
 kid:KV
structure Tpolicy_condAll where
 kids:(List KV)
structure Tpolicy_condAny where
 kids:(List KV)
structure Tpolicy_condTrue where
 deriving DecidableEq
structure Tpolicy_value where
 hasText:Bool
 hasNumber:Bool
 text:(List UInt8)
 number:Int
 deriving DecidableEq
structure Tpolicy_values where
 by_:(List ((List UInt8)×Tpolicy_value))
 known:(Option (List ((List UInt8)×Bool)))
 deriving DecidableEq
structure TDecision where
 Fact:Int
 Rule:Int
 Waiver:Int
 Level:Int
 deriving DecidableEq
structure Tpolicy_ruling where
 rule:Int
 level:Int
 waivers:(List Int)
 deriving DecidableEq
def encI_i64(x:Int):List V:=[(iV x)]
theorem imms_encI_i64(x:Int):Imms (encI_i64 x):=(.cons (Imm.con _) .nil)
theorem one_encI_i64(x:Int):(encI_i64 x).all oneV=true:=rfl
instance:EI encI_i64:=⟨imms_encI_i64,one_encI_i64⟩
def encS(x:(List UInt8)):List V:=[(sV x)]
theorem imms_encS(x:(List UInt8)):Imms (encS x):=(.cons (Imm.con _) .nil)
theorem one_encS(x:(List UInt8)):(encS x).all oneV=true:=rfl
instance:EI encS:=⟨imms_encS,one_encS⟩
def encTTest(x:TTest):List V:=[(iV x.Kind),(sV x.Name),(V.lst 1 (x.Texts.map encS)),(iV x.Op),(iV x.N),(V.lst 6 (x.Kids.map KRow.row))]
theorem imms_encTTest(x:TTest):Imms (encTTest x):=(.cons (Imm.con _) (.cons (Imm.con _) (.cons (Imm.lst _ _) (.cons (Imm.con _) (.cons (Imm.con _) (.cons (Imm.lst _ _) .nil))))))
theorem one_encTTest(x:TTest):(encTTest x).all oneV=true:=rfl
instance:EI encTTest:=⟨imms_encTTest,one_encTTest⟩
@[simp] theorem len_encTTest(x:TTest):(encTTest x).length=6:=rfl
def encTPair(x:TPair):List V:=[(sV x.Name),(sV x.Value)]
theorem imms_encTPair(x:TPair):Imms (encTPair x):=(.cons (Imm.con _) (.cons (Imm.con _) .nil))
theorem one_encTPair(x:TPair):(encTPair x).all oneV=true:=rfl
instance:EI encTPair:=⟨imms_encTPair,one_encTPair⟩
@[simp] theorem len_encTPair(x:TPair):(encTPair x).length=2:=rfl
def encTAmount(x:TAmount):List V:=[(sV x.Name),(iV x.N)]
theorem imms_encTAmount(x:TAmount):Imms (encTAmount x):=(.cons (Imm.con _) (.cons (Imm.con _) .nil))
theorem one_encTAmount(x:TAmount):(encTAmount x).all oneV=true:=rfl
instance:EI encTAmount:=⟨imms_encTAmount,one_encTAmount⟩
@[simp] theorem len_encTAmount(x:TAmount):(encTAmount x).length=2:=rfl
def encTFact(x:TFact):List V:=[(sV x.Kind),(sV x.Subject),(V.lst 2 (x.Texts.map encTPair)),(V.lst 2 (x.Numbers.map encTAmount))]
theorem imms_encTFact(x:TFact):Imms (encTFact x):=(.cons (Imm.con _) (.cons (Imm.con _) (.cons (Imm.lst _ _) (.cons (Imm.lst _ _) .nil))))
theorem one_encTFact(x:TFact):(encTFact x).all oneV=true:=rfl
instance:EI encTFact:=⟨imms_encTFact,one_encTFact⟩
@[simp] theorem len_encTFact(x:TFact):(encTFact x).length=4:=rfl
def encTPolicyRule(x:TPolicyRule):List V:=[(sV x.Name),(sV x.About),(iV x.When.Kind),(sV x.When.Name),(V.lst 1 (x.When.Texts.map encS)),(iV x.When.Op),(iV x.When.N),(V.lst 6 (x.When.Kids.map KRow.row)),(iV x.Level)]
theorem imms_encTPolicyRule(x:TPolicyRule):Imms (encTPolicyRule x):=(.cons (Imm.con _) (.cons (Imm.con _) (.cons (Imm.con _) (.cons (Imm.con _) (.cons (Imm.lst _ _) (.cons (Imm.con _) (.cons (Imm.con _) (.cons (Imm.lst _ _) (.cons (Imm.con _) .nil)))))))))
theorem one_encTPolicyRule(x:TPolicyRule):(encTPolicyRule x).all oneV=true:=rfl
instance:EI encTPolicyRule:=⟨imms_encTPolicyRule,one_encTPolicyRule⟩
@[simp] theorem len_encTPolicyRule(x:TPolicyRule):(encTPolicyRule x).length=9:=rfl
def encTWaiver(x:TWaiver):List V:=[(sV x.Rule),(sV x.Subject),(iV x.From),(iV x.To),(sV x.Owner),(iV x.Level)]
theorem imms_encTWaiver(x:TWaiver):Imms (encTWaiver x):=(.cons (Imm.con _) (.cons (Imm.con _) (.cons (Imm.con _) (.cons (Imm.con _) (.cons (Imm.con _) (.cons (Imm.con _) .nil))))))
theorem one_encTWaiver(x:TWaiver):(encTWaiver x).all oneV=true:=rfl
instance:EI encTWaiver:=⟨imms_encTWaiver,one_encTWaiver⟩
@[simp] theorem len_encTWaiver(x:TWaiver):(encTWaiver x).length=6:=rfl
def encTPolicy(x:TPolicy):List V:=[(V.lst 9 (x.Rules.map encTPolicyRule)),(V.lst 6 (x.Waivers.map encTWaiver))]
theorem imms_encTPolicy(x:TPolicy):Imms (encTPolicy x):=(.cons (Imm.lst _ _) (.cons (Imm.lst _ _) .nil))
theorem one_encTPolicy(x:TPolicy):(encTPolicy x).all oneV=true:=rfl
instance:EI encTPolicy:=⟨imms_encTPolicy,one_encTPolicy⟩
@[simp] theorem len_encTPolicy(x:TPolicy):(encTPolicy x).length=2:=rfl
def encTDecision(x:TDecision):List V:=[(iV x.Fact),(iV x.Rule),(iV x.Waiver),(iV x.Level)]
theorem imms_encTDecision(x:TDecision):Imms (encTDecision x):=(.cons (Imm.con _) (.cons (Imm.con _) (.cons (Imm.con _) (.cons (Imm.con _) .nil))))
theorem one_encTDecision(x:TDecision):(encTDecision x).all oneV=true:=rfl
instance:EI encTDecision:=⟨imms_encTDecision,one_encTDecision⟩
@[simp] theorem len_encTDecision(x:TDecision):(encTDecision x).length=4:=rfl
theorem eqp4{d:Nat}:EqOk Tryz.prog (d+1) 4 1 false (fun l=>∃n,l=[.bool n]):=eqOk_bool (show Tryz.prog.underlying 4=some (.bool) by kernel_rfl) (show tyC Tryz.prog 4=true by kernel_rfl)
theorem eqp9{d:Nat}:EqOk Tryz.prog (d+1) 9 1 false (fun l=>∃n,l=[.string n]):=eqOk_str (show Tryz.prog.underlying 9=some (.string) by kernel_rfl) (show tyC Tryz.prog 9=true by kernel_rfl)
theorem eqp3{d:Nat}:EqOk Tryz.prog (d+1) 3 1 false (fun l=>∃n,l=[.int .i64 n]):=eqOk_int (show Tryz.prog.underlying 3=some (.int .i64) by kernel_rfl) (show tyC Tryz.prog 3=true by kernel_rfl)
def cv98(x:Tpolicy_value):List Value:=[.bool x.hasText]++([.bool x.hasNumber]++([str x.text]++([.int .i64 x.number]++[])))
theorem inj_cv98(x y:Tpolicy_value)(h:cv98 x=cv98 y):x=y:=by
 obtain⟨h0,h⟩:=List.append_inj h rfl
 obtain⟨h1,h⟩:=List.append_inj h rfl
 obtain⟨h2,h⟩:=List.append_inj h rfl
 obtain⟨h3,h⟩:=List.append_inj h rfl
 obtain⟨a0,a1,a2,a3⟩:=x
 obtain⟨b0,b1,b2,b3⟩:=y
 obtain rfl:a0=b0:=inj_bool _ _ (List.cons.inj h0).1
 obtain rfl:a1=b1:=inj_bool _ _ (List.cons.inj h1).1
 obtain rfl:a2=b2:=inj_str _ _ (List.cons.inj h2).1
 obtain rfl:a3=b3:=inj_int _ _ (List.cons.inj h3).1
 rfl
def isAgg98(v:Value):Prop:=∃x:Tpolicy_value,v=.agg (cv98 x).toArray
theorem inj_agg98:∀a b:Tpolicy_value,(Value.agg (cv98 a).toArray)=.agg (cv98 b).toArray->a=b:=fun a b h=>inj_cv98 a b (by simpa using congrArg Array.toList (Value.agg.inj h))
theorem eqp98 {d:Nat}:EqOk Tryz.prog (d+2) 98 4 true (fun l=>∃x:Tpolicy_value,l=cv98 x):=(eqOk_struct (d:=d+1) (fs:=[(Field.mk "hasText" 4 0 false "" "provender/policy" 0),(Field.mk "hasNumber" 4 1 false "" "provender/policy" 1),(Field.mk "text" 9 2 false "" "provender/policy" 8),(Field.mk "number" 3 3 false "" "provender/policy" 24)]) (by kernel_rfl) (by kernel_rfl) (by kernel_rfl) (by kernel_rfl) (eqF_cons eqp4 (by simp) rfl (by simp) (eqF_cons eqp4 (by simp) rfl (by simp) (eqF_cons eqp9 (by simp) rfl (by simp) (eqF_cons eqp3 (by simp) rfl (by simp) eqF_nil))))).weaken (fun l ⟨x,hx⟩=>by subst hx;exact⟨_,_,rfl,⟨_,rfl⟩,⟨_,_,rfl,⟨_,rfl⟩,⟨_,_,rfl,⟨_,rfl⟩,⟨_,_,rfl,⟨_,rfl⟩,rfl⟩⟩⟩⟩)
theorem eqk98:EqOk Tryz.prog 10000 98 4 true (fun l=>∃x:Tpolicy_value,l=cv98 x):=eqp98 (d:=9998)
def encM9_98(p:(List UInt8)×Tpolicy_value):Value×V:=(str p.1,(V.agg [(bV p.2.hasText),(bV p.2.hasNumber),(sV p.2.text),(iV p.2.number)]))
abbrev encM9_98_val(v:Tpolicy_value):V:=(V.agg [(bV v.hasText),(bV v.hasNumber),(sV v.text),(iV v.number)])
theorem encM9_98_puts(xs:List ((List UInt8)×Tpolicy_value))(k:(List UInt8))(v:Tpolicy_value):Puts (str k) (encM9_98_val v) (xs.map encM9_98) ((mput xs k v).map encM9_98):=puts_map (kv:=fun k=>str k) (ev:=encM9_98_val) inj_str xs k v
theorem encM9_98_dels(xs:List ((List UInt8)×Tpolicy_value))(k:(List UInt8)):Dels (str k) (xs.map encM9_98) ((mdel xs k).map encM9_98):=dels_map (kv:=fun k=>str k) (ev:=encM9_98_val) inj_str xs k
theorem encM9_98_look(xs:List ((List UInt8)×Tpolicy_value))(k:(List UInt8)):Look (str k) (xs.map encM9_98) ((mget xs k).map encM9_98_val):=look_map (kv:=fun k=>str k) (ev:=encM9_98_val) inj_str xs k
theorem encM9_98_imm{xs:List ((List UInt8)×Tpolicy_value)}:∀p,p∈xs.map encM9_98->Imm p.2:=by
 intro p hp
 obtain⟨x,_,rfl⟩:=List.mem_map.1 hp
 exact(Imm.agg (.cons (Imm.con _) (.cons (Imm.con _) (.cons (Imm.con _) (.cons (Imm.con _) .nil)))))
instance:EM encM9_98:=⟨fun _=>(Imm.agg (.cons (Imm.con _) (.cons (Imm.con _) (.cons (Imm.con _) (.cons (Imm.con _) .nil)))))⟩
theorem encM9_98_good{xs:List ((List UInt8)×Tpolicy_value)}:∀p,p∈xs.map encM9_98->isStr p.1:=by
 intro p hp
 obtain⟨x,_,rfl⟩:=List.mem_map.1 hp
 exact⟨_,rfl⟩
def encM9_4(p:(List UInt8)×Bool):Value×V:=(str p.1,(bV p.2))
abbrev encM9_4_val(v:Bool):V:=(bV v)
theorem encM9_4_puts(xs:List ((List UInt8)×Bool))(k:(List UInt8))(v:Bool):Puts (str k) (encM9_4_val v) (xs.map encM9_4) ((mput xs k v).map encM9_4):=puts_map (kv:=fun k=>str k) (ev:=encM9_4_val) inj_str xs k v
theorem encM9_4_dels(xs:List ((List UInt8)×Bool))(k:(List UInt8)):Dels (str k) (xs.map encM9_4) ((mdel xs k).map encM9_4):=dels_map (kv:=fun k=>str k) (ev:=encM9_4_val) inj_str xs k
theorem encM9_4_look(xs:List ((List UInt8)×Bool))(k:(List UInt8)):Look (str k) (xs.map encM9_4) ((mget xs k).map encM9_4_val):=look_map (kv:=fun k=>str k) (ev:=encM9_4_val) inj_str xs k
theorem encM9_4_imm{xs:List ((List UInt8)×Bool)}:∀p,p∈xs.map encM9_4->Imm p.2:=by
 intro p hp
 obtain⟨x,_,rfl⟩:=List.mem_map.1 hp
 exact(Imm.con _)
instance:EM encM9_4:=⟨fun _=>(Imm.con _)⟩
theorem encM9_4_good{xs:List ((List UInt8)×Bool)}:∀p,p∈xs.map encM9_4->isStr p.1:=by
 intro p hp
 obtain⟨x,_,rfl⟩:=List.mem_map.1 hp
 exact⟨_,rfl⟩
def encTpolicy_values(x:Tpolicy_values):List V:=[(V.imap (x.by_.map encM9_98)),(optm encM9_4 x.known)]
theorem imms_encTpolicy_values(x:Tpolicy_values):Imms (encTpolicy_values x):=(.cons (Imm.imap _) (.cons (imm_optm _) .nil))
theorem one_encTpolicy_values(x:Tpolicy_values):(encTpolicy_values x).all oneV=true:=by unfold encTpolicy_values;simp only[List.all_cons,List.all_nil,one_optm,Bool.true_and];rfl
instance:EI encTpolicy_values:=⟨imms_encTpolicy_values,one_encTpolicy_values⟩
theorem nd_encTpolicy_values(x:Tpolicy_values):ndB (encTpolicy_values x)=true:=by unfold encTpolicy_values;cases x.known<;>rfl
@[simp] theorem len_encTpolicy_values(x:Tpolicy_values):(encTpolicy_values x).length=2:=rfl
def encTpolicy_value(x:Tpolicy_value):List V:=[(bV x.hasText),(bV x.hasNumber),(sV x.text),(iV x.number)]
theorem imms_encTpolicy_value(x:Tpolicy_value):Imms (encTpolicy_value x):=(.cons (Imm.con _) (.cons (Imm.con _) (.cons (Imm.con _) (.cons (Imm.con _) .nil))))
theorem one_encTpolicy_value(x:Tpolicy_value):(encTpolicy_value x).all oneV=true:=rfl
instance:EI encTpolicy_value:=⟨imms_encTpolicy_value,one_encTpolicy_value⟩
@[simp] theorem len_encTpolicy_value(x:Tpolicy_value):(encTpolicy_value x).length=4:=rfl
def encTpolicy_condIs(x:Tpolicy_condIs):List V:=[(sV x.name),(V.lst 1 (x.texts.map encS))]
theorem imms_encTpolicy_condIs(x:Tpolicy_condIs):Imms (encTpolicy_condIs x):=(.cons (Imm.con _) (.cons (Imm.lst _ _) .nil))
theorem one_encTpolicy_condIs(x:Tpolicy_condIs):(encTpolicy_condIs x).all oneV=true:=rfl
instance:EI encTpolicy_condIs:=⟨imms_encTpolicy_condIs,one_encTpolicy_condIs⟩
@[simp] theorem len_encTpolicy_condIs(x:Tpolicy_condIs):(encTpolicy_condIs x).length=2:=rfl
def encTpolicy_condBegins(x:Tpolicy_condBegins):List V:=[(sV x.name),(V.lst 1 (x.texts.map encS))]
theorem imms_encTpolicy_condBegins(x:Tpolicy_condBegins):Imms (encTpolicy_condBegins x):=(.cons (Imm.con _) (.cons (Imm.lst _ _) .nil))
theorem one_encTpolicy_condBegins(x:Tpolicy_condBegins):(encTpolicy_condBegins x).all oneV=true:=rfl
instance:EI encTpolicy_condBegins:=⟨imms_encTpolicy_condBegins,one_encTpolicy_condBegins⟩
@[simp] theorem len_encTpolicy_condBegins(x:Tpolicy_condBegins):(encTpolicy_condBegins x).length=2:=rfl
def encTpolicy_condHas(x:Tpolicy_condHas):List V:=[(sV x.name)]
theorem imms_encTpolicy_condHas(x:Tpolicy_condHas):Imms (encTpolicy_condHas x):=(.cons (Imm.con _) .nil)
theorem one_encTpolicy_condHas(x:Tpolicy_condHas):(encTpolicy_condHas x).all oneV=true:=rfl
instance:EI encTpolicy_condHas:=⟨imms_encTpolicy_condHas,one_encTpolicy_condHas⟩
@[simp] theorem len_encTpolicy_condHas(x:Tpolicy_condHas):(encTpolicy_condHas x).length=1:=rfl
def encTpolicy_condNumber(x:Tpolicy_condNumber):List V:=[(sV x.name),(iV x.op),(iV x.n)]
theorem imms_encTpolicy_condNumber(x:Tpolicy_condNumber):Imms (encTpolicy_condNumber x):=(.cons (Imm.con _) (.cons (Imm.con _) (.cons (Imm.con _) .nil)))
theorem one_encTpolicy_condNumber(x:Tpolicy_condNumber):(encTpolicy_condNumber x).all oneV=true:=rfl
instance:EI encTpolicy_condNumber:=⟨imms_encTpolicy_condNumber,one_encTpolicy_condNumber⟩
@[simp] theorem len_encTpolicy_condNumber(x:Tpolicy_condNumber):(encTpolicy_condNumber x).length=3:=rfl
def encTpolicy_condNot(x:Tpolicy_condNot):List V:=[(V.ifc x.kid.t x.kid.d)]
theorem imms_encTpolicy_condNot(x:Tpolicy_condNot):Imms (encTpolicy_condNot x):=(.cons (Imm.ifc _ _) .nil)
theorem one_encTpolicy_condNot(x:Tpolicy_condNot):(encTpolicy_condNot x).all oneV=true:=rfl
instance:EI encTpolicy_condNot:=⟨imms_encTpolicy_condNot,one_encTpolicy_condNot⟩
@[simp] theorem len_encTpolicy_condNot(x:Tpolicy_condNot):(encTpolicy_condNot x).length=1:=rfl
def encTpolicy_condAll(x:Tpolicy_condAll):List V:=[(V.lst 1 (x.kids.map KV.enc))]
theorem imms_encTpolicy_condAll(x:Tpolicy_condAll):Imms (encTpolicy_condAll x):=(.cons (Imm.lst _ _) .nil)
theorem one_encTpolicy_condAll(x:Tpolicy_condAll):(encTpolicy_condAll x).all oneV=true:=rfl
instance:EI encTpolicy_condAll:=⟨imms_encTpolicy_condAll,one_encTpolicy_condAll⟩
@[simp] theorem len_encTpolicy_condAll(x:Tpolicy_condAll):(encTpolicy_condAll x).length=1:=rfl
def encTpolicy_condAny(x:Tpolicy_condAny):List V:=[(V.lst 1 (x.kids.map KV.enc))]
theorem imms_encTpolicy_condAny(x:Tpolicy_condAny):Imms (encTpolicy_condAny x):=(.cons (Imm.lst _ _) .nil)
theorem one_encTpolicy_condAny(x:Tpolicy_condAny):(encTpolicy_condAny x).all oneV=true:=rfl
instance:EI encTpolicy_condAny:=⟨imms_encTpolicy_condAny,one_encTpolicy_condAny⟩
@[simp] theorem len_encTpolicy_condAny(x:Tpolicy_condAny):(encTpolicy_condAny x).length=1:=rfl
def encTpolicy_condTrue(x:Tpolicy_condTrue):List V:=[]
theorem imms_encTpolicy_condTrue(x:Tpolicy_condTrue):Imms (encTpolicy_condTrue x):=.nil
theorem one_encTpolicy_condTrue(x:Tpolicy_condTrue):(encTpolicy_condTrue x).all oneV=true:=rfl
instance:EI encTpolicy_condTrue:=⟨imms_encTpolicy_condTrue,one_encTpolicy_condTrue⟩
@[simp] theorem len_encTpolicy_condTrue(x:Tpolicy_condTrue):(encTpolicy_condTrue x).length=0:=rfl
def encTpolicy_subject(x:Tpolicy_subject):List V:=[(V.lst 1 (x.is.map encS)),(V.lst 1 (x.begins.map encS)),(V.lst 1 (x.numbers.map encI_i64)),(bV x.asText),(bV x.asNo),(bV x.has),(iV x.weight)]
theorem imms_encTpolicy_subject(x:Tpolicy_subject):Imms (encTpolicy_subject x):=(.cons (Imm.lst _ _) (.cons (Imm.lst _ _) (.cons (Imm.lst _ _) (.cons (Imm.con _) (.cons (Imm.con _) (.cons (Imm.con _) (.cons (Imm.con _) .nil)))))))
theorem one_encTpolicy_subject(x:Tpolicy_subject):(encTpolicy_subject x).all oneV=true:=rfl
instance:EI encTpolicy_subject:=⟨imms_encTpolicy_subject,one_encTpolicy_subject⟩
@[simp] theorem len_encTpolicy_subject(x:Tpolicy_subject):(encTpolicy_subject x).length=7:=rfl
def encTpolicy_ruling(x:Tpolicy_ruling):List V:=[(iV x.rule),(iV x.level),(V.lst 1 (x.waivers.map encI_i64))]
theorem imms_encTpolicy_ruling(x:Tpolicy_ruling):Imms (encTpolicy_ruling x):=(.cons (Imm.con _) (.cons (Imm.con _) (.cons (Imm.lst _ _) .nil)))
theorem one_encTpolicy_ruling(x:Tpolicy_ruling):(encTpolicy_ruling x).all oneV=true:=rfl
instance:EI encTpolicy_ruling:=⟨imms_encTpolicy_ruling,one_encTpolicy_ruling⟩
@[simp] theorem len_encTpolicy_ruling(x:Tpolicy_ruling):(encTpolicy_ruling x).length=3:=rfl
def encTpolicy_uses(x:Tpolicy_uses):List V:=[(bV x.name),(bV x.texts),(bV x.number),(iV x.kids)]
theorem imms_encTpolicy_uses(x:Tpolicy_uses):Imms (encTpolicy_uses x):=(.cons (Imm.con _) (.cons (Imm.con _) (.cons (Imm.con _) (.cons (Imm.con _) .nil))))
theorem one_encTpolicy_uses(x:Tpolicy_uses):(encTpolicy_uses x).all oneV=true:=rfl
instance:EI encTpolicy_uses:=⟨imms_encTpolicy_uses,one_encTpolicy_uses⟩
@[simp] theorem len_encTpolicy_uses(x:Tpolicy_uses):(encTpolicy_uses x).length=4:=rfl
def dencTpolicy_subject(x:Tpolicy_subject):List V:=[(V.dsl 9 1 (x.is.map encS)),(V.dsl 9 1 (x.begins.map encS)),(V.dsl 3 1 (x.numbers.map encI_i64)),(bV x.asText),(bV x.asNo),(bV x.has),(iV x.weight)]
theorem und_dencTpolicy_subject:UndE dencTpolicy_subject encTpolicy_subject:=fun x=>(.cons (und_dsl _ _ imms_encS _) (.cons (und_dsl _ _ imms_encS _) (.cons (und_dsl _ _ imms_encI_i64 _) (.cons (und_con _) (.cons (und_con _) (.cons (und_con _) (.cons (und_con _) .nil)))))))
@[simp] theorem len_dencTpolicy_subject(x:Tpolicy_subject):(dencTpolicy_subject x).length=7:=rfl
instance:EK dencTpolicy_subject:=⟨fun x c hc=>by
 obtain⟨j,hj⟩:=List.getElem?_of_mem hc
 have hl:=(List.getElem?_eq_some_iff.1 hj).1
 rw[(und_dencTpolicy_subject x).1] at hl
 exact((und_dencTpolicy_subject x).2 j c _ hj (List.getElem?_eq_getElem hl)).2⟩
def encM9_103(p:(List UInt8)×(Option Tpolicy_subject)):Value×V:=(str p.1,(optr encTpolicy_subject p.2))
abbrev encM9_103_val(v:(Option Tpolicy_subject)):V:=(optr encTpolicy_subject v)
theorem encM9_103_look(xs:List ((List UInt8)×(Option Tpolicy_subject)))(k:(List UInt8)):Look (str k) (xs.map encM9_103) ((mget xs k).map encM9_103_val):=look_map (kv:=fun k=>str k) (ev:=encM9_103_val) inj_str xs k
instance:EM encM9_103:=⟨fun _=>(imm_optr _)⟩
theorem encM9_103_good{xs:List ((List UInt8)×(Option Tpolicy_subject))}:∀p,p∈xs.map encM9_103->isStr p.1:=by
 intro p hp
 obtain⟨x,_,rfl⟩:=List.mem_map.1 hp
 exact⟨_,rfl⟩
def encM9_335(p:(List UInt8)×(Option Tpolicy_subject)):Value×V:=(str p.1,(dopt 161 dencTpolicy_subject p.2))
theorem encM9_335_und(p:(List UInt8)×(Option Tpolicy_subject)):(encM9_335 p).1=(encM9_103 p).1/\Und (encM9_335 p).2 (encM9_103 p).2/\Keep (encM9_335 p).2:=⟨rfl,und_dopt 161 und_dencTpolicy_subject p.2,keep_dopt 161 p.2⟩
instance:EMK encM9_335:=⟨fun p=>(encM9_335_und p).2.2⟩
theorem encM9_335_good{xs:List ((List UInt8)×(Option Tpolicy_subject))}:∀p,p∈xs.map encM9_335->isStr p.1:=by
 intro p hp
 obtain⟨x,_,rfl⟩:=List.mem_map.1 hp
 exact⟨_,rfl⟩
def encM98_4(p:Tpolicy_value×Bool):Value×V:=(.agg (cv98 p.1).toArray,(bV p.2))
abbrev encM98_4_val(v:Bool):V:=(bV v)
theorem encM98_4_puts(xs:List (Tpolicy_value×Bool))(k:Tpolicy_value)(v:Bool):Puts (.agg (cv98 k).toArray) (encM98_4_val v) (xs.map encM98_4) ((mput xs k v).map encM98_4):=puts_map (kv:=fun k=>.agg (cv98 k).toArray) (ev:=encM98_4_val) inj_agg98 xs k v
theorem encM98_4_look(xs:List (Tpolicy_value×Bool))(k:Tpolicy_value):Look (.agg (cv98 k).toArray) (xs.map encM98_4) ((mget xs k).map encM98_4_val):=look_map (kv:=fun k=>.agg (cv98 k).toArray) (ev:=encM98_4_val) inj_agg98 xs k
theorem encM98_4_imm{xs:List (Tpolicy_value×Bool)}:∀p,p∈xs.map encM98_4->Imm p.2:=by
 intro p hp
 obtain⟨x,_,rfl⟩:=List.mem_map.1 hp
 exact(Imm.con _)
instance:EM encM98_4:=⟨fun _=>(Imm.con _)⟩
theorem encM98_4_good{xs:List (Tpolicy_value×Bool)}:∀p,p∈xs.map encM98_4->(isAgg98) p.1:=by
 intro p hp
 obtain⟨x,_,rfl⟩:=List.mem_map.1 hp
 exact⟨_,rfl⟩
def encM9_169(p:(List UInt8)×(List Tpolicy_value)):Value×V:=(str p.1,(V.lst 4 (p.2.map encTpolicy_value)))
abbrev encM9_169_val(v:(List Tpolicy_value)):V:=(V.lst 4 (v.map encTpolicy_value))
theorem encM9_169_look(xs:List ((List UInt8)×(List Tpolicy_value)))(k:(List UInt8)):Look (str k) (xs.map encM9_169) ((mget xs k).map encM9_169_val):=look_map (kv:=fun k=>str k) (ev:=encM9_169_val) inj_str xs k
instance:EM encM9_169:=⟨fun _=>(Imm.lst _ _)⟩
theorem encM9_169_good{xs:List ((List UInt8)×(List Tpolicy_value))}:∀p,p∈xs.map encM9_169->isStr p.1:=by
 intro p hp
 obtain⟨x,_,rfl⟩:=List.mem_map.1 hp
 exact⟨_,rfl⟩
def encM9_337(p:(List UInt8)×(List Tpolicy_value)):Value×V:=(str p.1,(V.dsl 98 4 (p.2.map encTpolicy_value)))
theorem encM9_337_und(p:(List UInt8)×(List Tpolicy_value)):(encM9_337 p).1=(encM9_169 p).1/\Und (encM9_337 p).2 (encM9_169 p).2/\Keep (encM9_337 p).2:=⟨rfl,und_rows imms_encTpolicy_value _,Keep.dsl _ _ _⟩
instance:EMK encM9_337:=⟨fun p=>(encM9_337_und p).2.2⟩
theorem encM9_337_good{xs:List ((List UInt8)×(List Tpolicy_value))}:∀p,p∈xs.map encM9_337->isStr p.1:=by
 intro p hp
 obtain⟨x,_,rfl⟩:=List.mem_map.1 hp
 exact⟨_,rfl⟩
theorem tZ58:zeroCells Tryz.prog 58=some [.string ⟨#[]⟩,.string ⟨#[]⟩,.int .i64 0,.string ⟨#[]⟩,.slice none 0 0,.int .i64 0,.int .i64 0,.slice none 0 0,.int .i64 0]:=by kernel_rfl
theorem tStr9:tyStr Tryz.prog 9=true:=by kernel_rfl
theorem tMap92:tyMap Tryz.prog 92 9 4=true:=by kernel_rfl
theorem tKey9:KeyT Tryz.prog 9 isStr:=keyT_str (by kernel_rfl)
theorem tZo4:(Tryz.prog.info? 4).bind (·.zero)=some (.bool false):=by kernel_rfl
theorem tZ208:zeroCells Tryz.prog 208=some [.bool false,.bool false,.bool false,.int .i64 0,.bool false,.bool false,.bool false,.int .i64 0,.bool false,.bool false,.bool false,.int .i64 0,.bool false,.bool false,.bool false,.int .i64 0,.bool false,.bool false,.bool false,.int .i64 0,.bool false,.bool false,.bool false,.int .i64 0,.bool false,.bool false,.bool false,.int .i64 0,.bool false,.bool false,.bool false,.int .i64 0,.bool false,.bool false,.bool false,.int .i64 0]:=by kernel_rfl
theorem tZ207:zeroCells Tryz.prog 207=some [.bool false,.bool false,.bool false,.int .i64 0]:=by kernel_rfl
theorem tArr208:tyArr Tryz.prog 208 9 4=true:=by kernel_rfl
theorem tAA208:tyArrA Tryz.prog 208 9 4 207=true:=by kernel_rfl
theorem tIsSl22:tySlice Tryz.prog 22=true:=by kernel_rfl
theorem fOk163:fnOk Tryz.prog 163=true:=by kernel_rfl
theorem fOk150:fnOk Tryz.prog 150=true:=by kernel_rfl
theorem tEl51:tyEl Tryz.prog 51 3 1 8=true:=by kernel_rfl
theorem tZ3:zeroCells Tryz.prog 3=some [.int .i64 0]:=by kernel_rfl
theorem tIsSl51:tySlice Tryz.prog 51=true:=by kernel_rfl
theorem tEl109:tyEl Tryz.prog 109 75 1 16=true:=by kernel_rfl
theorem tZ75:zeroCells Tryz.prog 75=some [.nilIface]:=by kernel_rfl
theorem tCn147:Program.concrete Tryz.prog 147=true:=by kernel_rfl
theorem tCn148:Program.concrete Tryz.prog 148=true:=by kernel_rfl
theorem tCn150:Program.concrete Tryz.prog 150=true:=by kernel_rfl
theorem tCn152:Program.concrete Tryz.prog 152=true:=by kernel_rfl
theorem tSl109:tySl Tryz.prog 109 1=true:=by kernel_rfl
theorem tCn154:Program.concrete Tryz.prog 154=true:=by kernel_rfl
theorem tCn156:Program.concrete Tryz.prog 156=true:=by kernel_rfl
theorem tCn157:Program.concrete Tryz.prog 157=true:=by kernel_rfl
theorem tCn159:Program.concrete Tryz.prog 159=true:=by kernel_rfl
theorem tNI147:tyNI Tryz.prog 147=true:=by kernel_rfl
theorem fOk89:fnOk Tryz.prog 89=true:=by kernel_rfl
theorem tEl22:tyEl Tryz.prog 22 9 1 16=true:=by kernel_rfl
theorem tZo147:(Tryz.prog.info? 147).bind (·.zero)=some (.agg #[.string ⟨#[]⟩,.slice none 0 0]):=by kernel_rfl
theorem tNI148:tyNI Tryz.prog 148=true:=by kernel_rfl
theorem tZo148:(Tryz.prog.info? 148).bind (·.zero)=some (.agg #[.string ⟨#[]⟩,.slice none 0 0]):=by kernel_rfl
theorem tNI150:tyNI Tryz.prog 150=true:=by kernel_rfl
theorem tZo150:(Tryz.prog.info? 150).bind (·.zero)=some (.agg #[.string ⟨#[]⟩]):=by kernel_rfl
theorem tNI152:tyNI Tryz.prog 152=true:=by kernel_rfl
theorem tZo152:(Tryz.prog.info? 152).bind (·.zero)=some (.agg #[.string ⟨#[]⟩,.int .i64 0,.int .i64 0]):=by kernel_rfl
theorem tNI154:tyNI Tryz.prog 154=true:=by kernel_rfl
theorem tZo154:(Tryz.prog.info? 154).bind (·.zero)=some (.agg #[.nilIface]):=by kernel_rfl
theorem tNI156:tyNI Tryz.prog 156=true:=by kernel_rfl
theorem tZo156:(Tryz.prog.info? 156).bind (·.zero)=some (.agg #[.slice none 0 0]):=by kernel_rfl
theorem tNI157:tyNI Tryz.prog 157=true:=by kernel_rfl
theorem tZo157:(Tryz.prog.info? 157).bind (·.zero)=some (.agg #[.slice none 0 0]):=by kernel_rfl
theorem fOk33:fnOk Tryz.prog 33=true:=by kernel_rfl
theorem fOk56:fnOk Tryz.prog 56=true:=by kernel_rfl
theorem tMap77:tyMap Tryz.prog 77 9 103=true:=by kernel_rfl
theorem fOk48:fnOk Tryz.prog 48=true:=by kernel_rfl
theorem fOk47:fnOk Tryz.prog 47=true:=by kernel_rfl
theorem fOk109:fnOk Tryz.prog 109=true:=by kernel_rfl
theorem tZ9:zeroCells Tryz.prog 9=some [.string ⟨#[]⟩]:=by kernel_rfl
theorem tMap91:tyMap Tryz.prog 91 9 98=true:=by kernel_rfl
theorem tZo98:(Tryz.prog.info? 98).bind (·.zero)=some (.agg #[.bool false,.bool false,.string ⟨#[]⟩,.int .i64 0]):=by kernel_rfl
theorem tZ98:zeroCells Tryz.prog 98=some [.bool false,.bool false,.string ⟨#[]⟩,.int .i64 0]:=by kernel_rfl
theorem tZo103:(Tryz.prog.info? 103).bind (·.zero)=some (.pointer none):=by kernel_rfl
theorem tMap167:tyMap Tryz.prog 167 98 4=true:=by kernel_rfl
theorem tKey98:KeyT Tryz.prog 98 isAgg98:=keyT_agg eqk98 (by kernel_rfl) (fun v ⟨x,hx⟩=>⟨_,⟨x,rfl⟩,hx⟩)
theorem tMap163:tyMap Tryz.prog 163 9 169=true:=by kernel_rfl
theorem tZo169:(Tryz.prog.info? 169).bind (·.zero)=some (.slice none 0 0):=by kernel_rfl
theorem tEl169:tyEl Tryz.prog 169 98 4 32=true:=by kernel_rfl
theorem tIsSl169:tySlice Tryz.prog 169=true:=by kernel_rfl
theorem fOk59:fnOk Tryz.prog 59=true:=by kernel_rfl
theorem fOk186:fnOk Tryz.prog 186=true:=by kernel_rfl
theorem fOk29:fnOk Tryz.prog 29=true:=by kernel_rfl
theorem tU21:Tryz.prog.underlying 21=some (.int .i32):=by kernel_rfl
theorem fOk237:fnOk Tryz.prog 237=true:=by kernel_rfl
theorem fOk188:fnOk Tryz.prog 188=true:=by kernel_rfl
theorem fOk90:fnOk Tryz.prog 90=true:=by kernel_rfl
theorem fOk35:fnOk Tryz.prog 35=true:=by kernel_rfl
theorem tA94:tyA Tryz.prog 94 2=true:=by kernel_rfl
theorem tC92:tyC Tryz.prog 92=true:=by kernel_rfl
theorem tIsMp92:tyMp Tryz.prog 92=true:=by kernel_rfl
theorem fOk281:fnOk Tryz.prog 281=true:=by kernel_rfl
theorem tM147_iholds:∀(v:Value) (args:Array Value) (w:World),(callMethod (.iface 147 v) "provender/policy.holds" args).run Tryz.prog w=.ok (.enter 282 (#[v]++args)) w:=fun v args w=>by kernel_rfl
theorem tM148_iholds:∀(v:Value) (args:Array Value) (w:World),(callMethod (.iface 148 v) "provender/policy.holds" args).run Tryz.prog w=.ok (.enter 283 (#[v]++args)) w:=fun v args w=>by kernel_rfl
theorem tM150_iholds:∀(v:Value) (args:Array Value) (w:World),(callMethod (.iface 150 v) "provender/policy.holds" args).run Tryz.prog w=.ok (.enter 285 (#[v]++args)) w:=fun v args w=>by kernel_rfl
theorem tM152_iholds:∀(v:Value) (args:Array Value) (w:World),(callMethod (.iface 152 v) "provender/policy.holds" args).run Tryz.prog w=.ok (.enter 286 (#[v]++args)) w:=fun v args w=>by kernel_rfl
theorem tM154_iholds:∀(v:Value) (args:Array Value) (w:World),(callMethod (.iface 154 v) "provender/policy.holds" args).run Tryz.prog w=.ok (.enter 288 (#[v]++args)) w:=fun v args w=>by kernel_rfl
theorem tM156_iholds:∀(v:Value) (args:Array Value) (w:World),(callMethod (.iface 156 v) "provender/policy.holds" args).run Tryz.prog w=.ok (.enter 289 (#[v]++args)) w:=fun v args w=>by kernel_rfl
theorem tM157_iholds:∀(v:Value) (args:Array Value) (w:World),(callMethod (.iface 157 v) "provender/policy.holds" args).run Tryz.prog w=.ok (.enter 290 (#[v]++args)) w:=fun v args w=>by kernel_rfl
theorem tM159_iholds:∀(v:Value) (args:Array Value) (w:World),(callMethod (.iface 159 v) "provender/policy.holds" args).run Tryz.prog w=.ok (.enter 291 (#[v]++args)) w:=fun v args w=>by kernel_rfl
theorem fOk58:fnOk Tryz.prog 58=true:=by kernel_rfl
theorem fOk57:fnOk Tryz.prog 57=true:=by kernel_rfl
theorem fOk36:fnOk Tryz.prog 36=true:=by kernel_rfl
theorem tNil_holds:∀T,T∈([147,148,150,152,154,156,157,159]:List Nat)->∀(v:Value) (w:World),(nilAhead (Tryz.prog.types.size+Made.depth) T v "provender/policy.holds").run Tryz.prog w=.ok (some false) w:=fun T h=>by
 simp only[List.mem_cons,List.not_mem_nil,or_false] at h
 rcases h with rfl|rfl|rfl|rfl|rfl|rfl|rfl|rfl
 all_goals exact fun v w=>by kernel_rfl
theorem tZ197:zeroCells Tryz.prog 197=some [.int .i64 0,.int .i64 0,.slice none 0 0]:=by kernel_rfl
theorem tEl115:tyEl Tryz.prog 115 197 3 40=true:=by kernel_rfl
theorem tZ61:zeroCells Tryz.prog 61=some [.int .i64 0,.int .i64 0,.int .i64 0,.int .i64 0]:=by kernel_rfl
theorem tEl54:tyEl Tryz.prog 54 61 4 32=true:=by kernel_rfl
theorem tEl46:tyEl Tryz.prog 46 58 9 128=true:=by kernel_rfl
def tt:TT:=[(3,[.C,.S 1,.Z 1 [.int .i64 0]]),(4,[.C,.S 1]),(5,[.U]),(9,[.C,.Str,.Z 1 [.string ⟨#[]⟩],.S 1]),(11,[.Fn]),(18,[.Fn]),(19,[.Fn]),(20,[.Fn]),(21,[.I .i32]),(22,[.C,.Sn,.Sl 1,.S 1,.El 9 1 16]),(23,[.C,.Sn,.Sl 6]),(25,[.A 6,.S 6,.F 5 5,.Z 6 [.int .i64 0,.string ⟨#[]⟩,.slice none 0 0,.int .i64 0,.int .i64 0,.slice none 0 0],.F 0 0,.F 1 1,.F 2 2,.F 3 3,.F 4 4]),(26,[.C,.Sn,.Sl 2]),(27,[.C,.Sn,.Sl 2]),(29,[.A 4,.Z 4 [.string ⟨#[]⟩,.string ⟨#[]⟩,.slice none 0 0,.slice none 0 0],.S 4,.F 0 0,.F 1 1,.F 2 2,.F 3 3]),(30,[.Fn]),(31,[.Fn]),(32,[.Fn]),(34,[.Fn]),(39,[.A 2,.Z 2 [.string ⟨#[]⟩,.string ⟨#[]⟩],.S 2,.F 0 0,.F 1 1]),(41,[.A 2,.Z 2 [.string ⟨#[]⟩,.int .i64 0],.S 2,.F 0 0,.F 1 1]),(43,[.Fn]),(44,[.Fn]),(46,[.C,.Sn,.Sl 9,.El 58 9 128,.S 1]),(47,[.C,.Sn,.Sl 6,.S 1]),(49,[.S 2,.A 2,.F 0 0,.F 1 1,.Z 2 [.slice none 0 0,.slice none 0 0],.Pl [(0,1),(1,1)]]),(50,[.Fn,.Sn,.Sl 4]),(51,[.El 3 1 8,.Sn,.Sl 1,.C,.S 1]),(54,[.Fn,.El 61 4 32,.Sn,.Sl 4]),(55,[.Fn]),(58,[.A 9,.Z 9 [.string ⟨#[]⟩,.string ⟨#[]⟩,.int .i64 0,.string ⟨#[]⟩,.slice none 0 0,.int .i64 0,.int .i64 0,.slice none 0 0,.int .i64 0],.S 9,.F 0 0,.F 1 1,.F 2 2,.F 3 8]),(60,[.Fn]),(61,[.Z 4 [.int .i64 0,.int .i64 0,.int .i64 0,.int .i64 0],.Pl [(0,1),(1,1),(2,1),(3,1)],.S 4,.F 2 2,.F 3 3,.A 4,.Fn,.F 1 1]),(62,[.Fn]),(63,[.Fn]),(72,[.Fn]),(74,[.Fn]),(75,[.C]),(77,[.S 1,.C]),(80,[.Z 1 [.pointer none],.S 1,.C]),(82,[.C]),(86,[.Fn]),(87,[.Fn]),(88,[.Fn]),(91,[.C]),(92,[.C]),(94,[.Z 2 [.map none,.map none],.Pl [(0,1),(1,1)],.A 2,.F 0 0,.F 1 1,.S 2]),(98,[.Z 4 [.bool false,.bool false,.string ⟨#[]⟩,.int .i64 0],.S 4,.A 4,.Pl [(0,1),(1,1),(2,1),(3,1)],.F 0 0,.F 2 2,.F 1 1,.F 3 3]),(105,[.Fn]),(106,[.Fn]),(109,[.El 75 1 16,.Sn,.Sl 1,.C,.Z 1 [.slice none 0 0],.S 1]),(113,[.Fn]),(115,[.El 197 3 40,.Sn,.Sl 3]),(116,[.Fn]),(117,[.Fn]),(118,[.Fn]),(121,[.Fn]),(128,[.Fn]),(129,[.Fn]),(130,[.Fn]),(131,[.Fn]),(132,[.Fn]),(138,[.Fn]),(147,[.Z 2 [.string ⟨#[]⟩,.slice none 0 0],.Pl [(0,1),(1,1)],.S 2,.F 0 0,.F 1 1]),(148,[.Z 2 [.string ⟨#[]⟩,.slice none 0 0],.Pl [(0,1),(1,1)],.S 2,.F 0 0,.F 1 1]),(149,[.Fn]),(150,[.Z 1 [.string ⟨#[]⟩],.Pl [(0,1)],.S 1,.F 0 0]),(151,[.Fn]),(152,[.Z 3 [.string ⟨#[]⟩,.int .i64 0,.int .i64 0],.Pl [(0,1),(1,1),(2,1)],.S 3,.F 0 0,.F 2 2,.F 1 1]),(154,[.Z 1 [.nilIface],.Pl [(0,1)],.S 1,.F 0 0]),(156,[.Z 1 [.slice none 0 0],.Pl [(0,1)],.S 1,.F 0 0]),(157,[.Z 1 [.slice none 0 0],.Pl [(0,1)],.S 1,.F 0 0]),(159,[.Z 0 [],.Pl [],.S 0]),(161,[.Z 7 [.slice none 0 0,.slice none 0 0,.slice none 0 0,.bool false,.bool false,.bool false,.int .i64 0],.Pl [(0,1),(1,1),(2,1),(3,1),(4,1),(5,1),(6,1)],.S 7,.F 0 0,.F 6 6,.F 3 3,.F 1 1,.F 5 5,.F 2 2,.F 4 4]),(163,[.Fn,.C]),(164,[.Fn]),(165,[.Z 5 [.slice none 0 0,.map none,.map none,.map none,.nilFunc],.Pl [(0,1),(1,1),(2,2),(4,1)],.S 5,.F 0 0,.F 1 1,.F 3 4,.F 2 2,.Fn]),(167,[.Z 1 [.map none],.S 1,.C]),(169,[.El 98 4 32,.Sn,.Sl 4]),(185,[.A 6,.Z 6 [.string ⟨#[]⟩,.string ⟨#[]⟩,.int .i64 0,.int .i64 0,.string ⟨#[]⟩,.int .i64 0],.S 6,.F 1 1,.F 0 0,.F 2 2,.F 3 3,.F 4 4,.F 5 5]),(187,[.Fn]),(190,[.Fn]),(197,[.Z 3 [.int .i64 0,.int .i64 0,.slice none 0 0],.Pl [(0,1),(1,1),(2,1)],.S 3,.F 0 0,.F 1 1,.F 2 2,.A 3]),(207,[.Z 4 [.bool false,.bool false,.bool false,.int .i64 0],.Pl [(0,1),(1,1),(2,1),(3,1)],.S 4,.F 0 0,.F 1 1,.F 2 2,.F 3 3]),(208,[.Z 36 [.bool false,.bool false,.bool false,.int .i64 0,.bool false,.bool false,.bool false,.int .i64 0,.bool false,.bool false,.bool false,.int .i64 0,.bool false,.bool false,.bool false,.int .i64 0,.bool false,.bool false,.bool false,.int .i64 0,.bool false,.bool false,.bool false,.int .i64 0,.bool false,.bool false,.bool false,.int .i64 0,.bool false,.bool false,.bool false,.int .i64 0,.bool false,.bool false,.bool false,.int .i64 0],.S 36,.A 36]),(214,[.Fn]),(223,[.Fn]),(234,[.Fn]),(238,[.Fn]),(247,[.Fn]),(284,[.Fn]),(287,[.Fn])]
theorem ok:TTok Tryz.prog tt:=tt_b (by kernel_rfl) (by kernel_rfl) trivial
instance {N:Nat} {w:World} {m:Mem} {o:Nat->Prop} {p:Nat} {l:Nat->Option (Option (Nat×Cap))} {g:Gl} {h:GlOk g m} {q:Option Nat}:TC ⟨Tryz.prog,N,w,m,o,p,l,g,h,q⟩ tt:=⟨ok⟩
end Go.Proofs.YtelmfadihfcgnaaGreatDoor
