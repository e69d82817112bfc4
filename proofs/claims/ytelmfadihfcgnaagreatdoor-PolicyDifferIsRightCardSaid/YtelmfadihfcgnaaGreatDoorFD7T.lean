/- Part of the proof. -/
import Derived.Test.YtelmfadihfcgnaaGreatDoorFYH
import Derived.Shelf.SlIter.Sorted
import Derived.Test.YtelmfadihfcgnaaGreatDoorProg
set_option linter.unusedSimpArgs false
set_option linter.unusedVariables false
namespace Go.Pv
open Go Go.RowKit Go.Maps Go.Sort Go.Proofs
def rJ{τ:Type}(xs:List (B8×τ)):Option (List B8):=
 if xs.length*16<=140737488355328/\(∀p,p∈xs->p.1.length<=140737488355328) then some (eA (xs.map (·.1))) else none
def oY(v:Value):Option (DataW Unit×List MemPlace):=some (.lit (.bool true),[])
theorem H4{P:Program}{m:bZ}{w:World}{k:TypeId}{xs:List B8}{es:List (Value×V)}{v:Value}(hk:P.underlying k=some .string)(himm:∀(b:Nat) o,m b=some o->w.heap[b]? = some o)(he:es.map (·.1)=xs.map str)
  (hn:xs.length<=maxLen) (hl:∀x,x∈xs->x.length<=maxLen) (h:ct m (.imap es) v):
  ∃b D,v=.map (some b)/\b<w.heap.size/\w.ownsMap P k oY b xs.length D/\(strKeys D).Perm xs/\Maps.size D=xs.length:=by
 cases h with
 | @imap es b ents clock hm hln hkk h=>
 obtain⟨E,h1,h2,h3⟩:=hm
 have hkeys:ents.toList.map (·.key)=xs.map str:=by
  rw[<-he];apply ar9;intro i;rw[ax8,ax8];cases hi:es[i]? with
  |none=>
   grind
  |some p=>
   grind
 have hsz:E.size=xs.length:=by
  have a1:=h2.length_eq;have a2:=congrArg List.length hkeys;simp at a1 a2;omega
 have hread:∀e∈E.toList,∃x,x∈xs/\e.key=str x:=by
  intro e hE;have:e∈ents.toList:=h2.mem_iff.2 hE;have:e.key∈ents.toList.map (·.key):=bj8 this;rw[hkeys] at this;obtain⟨x,hx,e2⟩:=bb9.1 this;exact⟨x,hx,e2.symm⟩
 have hrd:∀e∈E.toList,∀x,x.length<=maxLen->e.key=str x->WideElems.rd P k oY e=some (.string x,.lit (.bool true)):=by
  intro e _ x hx hex
  have:keyOf P k e.key=some (.string x):=by
   rw[hex];unfold keyOf;rw[hk];simp only[mapKey,hk];simp[ByteArray.size,hx]
  unfold WideElems.rd;rw[this];rfl
 refine⟨b,.map ((E.toList.map (WideElems.rg P k oY)).foldr DataW.insert []),rfl,cq (himm _ _ h1),⟨E,clock,himm _ _ h1,⟨by omega,⟨fun x hx=>h3.lt x hx,h3.born,h3.key⟩,fun x hx=>?_⟩,by omega,rfl⟩,?_,?_⟩
 ·grind
 ·have p1:=Go.WideShapes.sorted_perm (E.toList.map (WideElems.rg P k oY));have p2:(strKeys (DataW.map ((E.toList.map (WideElems.rg P k oY)).foldr DataW.insert []))).Perm ((E.toList.map (WideElems.rg P k oY)).map fun p=>strOf p.1):=p1.map _;refine p2.trans ?_;rw[bb8];have p3:(E.toList.map ((fun p=>strOf p.1) ∘ WideElems.rg P k oY)).Perm (ents.toList.map ((fun p=>strOf p.1) ∘ WideElems.rg P k oY)):=(h2.symm).map _;refine p3.trans (List.Perm.of_eq ?_);apply ar9;intro i;have hk2:=congrArg (fun l=>l[i]?) hkeys;simp only[ax8] at hk2 ⊢;cases hi:xs[i]? with
  |none=>grind
  |some x=>
   rw[hi] at hk2;cases hx:ents.toList[i]? with
   |none=>grind
   |some e=>
    rw[hx] at hk2;simp only[ay8,av9] at hk2 ⊢;have hmem:e∈E.toList:=h2.mem_iff.1 (aw9 hx);have:=hrd e hmem x (hl x (aw9 hi)) hk2
    simp_all[WideElems.rg,strOf]
 ·rw[size_eq];rw[(Go.WideShapes.sorted_perm _).length_eq,be8]
  grind
section
variable{K:dE}{Q:cG}{S:St}
variable{ops:Array Oper}{rest:List Oper}{ty ty2:TypeId}{pos pos2:String}{after after2:Array Edge}{g g2:Option (Nat×Bool)}
theorem sr{ρ6 ρ7 ρ10:Go.Shelf.Ren}(L6:Go.Proofs.SlLaysZ.n6 K.P ρ6)(L7:Go.Proofs.SlLaysZ.n7 K.P ρ7)(L10:Go.Proofs.SlLaysZ.n10 K.P ρ10){f6 f7 f10 f9:Nat}{d1 d2:Nat}{x:Operand}{at1 at2:Array TypeId}{es:List (Value×V)}(xs:List B8)
  (e6:ρ6.f 6=f6) (e9:ρ6.f 9=f9) (e7:ρ7.f 7=f7) (e10:ρ7.f 10=f10) (e10':ρ10.f 10=f10) (et:ρ10.t 26=ρ6.t 26)
  (hs1:∀(blk off cap:Nat) (zs:List B8) (w:World),Holds str w blk off zs.toArray->blk<w.heap.size->zs.length<4611686018427387904->Calls K.P f9 #[.slice (some ⟨blk,off,none⟩) zs.length cap] w fun e w'=>
   e=.returned (.tuple #[])/\∃n os,w'=grow (putRow str (Sort.ahead w n) blk off (zs.mergeSort fun x y=>decide (x<=y)).toArray) os)
  (hs2:∀(p:Option Addr) (cap:Nat) (w:World),Calls K.P f9 #[.slice p 0 cap] w fun e w'=>e=.returned (.tuple #[])/\w'=w)
  (ef7:cP K.P f7=true) (ef6:cP K.P f6=true) (ef9:∀args w,(callFunc f9 args).run K.P w=.ok (.enter f9 args) w)
  (hc:xs.length*16<=140737488355328/\∀x,x∈xs->x.length<=140737488355328) (he:es.map (·.1)=xs.map str)
  (hw1:aT ops S ⟨some d1,.call ⟨.value (.func f7),#[x],at1⟩,ty,pos,after,g⟩ true) (hw2:aT ops (S.put d1 .any) ⟨some d2,.call ⟨.value (.func f6),#[.tmp d1],at2⟩,ty2,pos2,after2,g2⟩ true)
  (hx:cv K S x=.imap es) (hN1:Nat.blt d1 K.N=true) (hN2:Nat.blt d2 K.N=true)
  (kk:aD K ops rest Q ((S.put d1 .any).put d2 (.lst 1 ((eA xs).map fun s=>[sV s])))):
  aD K ops (⟨some d1,.call ⟨.value (.func f7),#[x],at1⟩,ty,pos,after,g⟩::⟨some d2,.call ⟨.value (.func f6),#[.tmp d1],at2⟩,ty2,pos2,after2,g2⟩::rest) Q S:=by
 subst e6 e9 e7 e10;have hml:(140737488355328:Nat)<=maxLen:=by unfold maxLen;decide
 intro m β w a r;unfold wpListIn;rw[if_pos (hw1.at r)];obtain⟨vs,h1,h2⟩:=uI (d:=some d1) (at':=at1) (ty:=ty) (pos:=pos) (after:=after) (g:=g) ef7 (args:=#[x]) (avs:=[.imap es]) (by simp[hx]) (.cons (aN.imap _) .nil) m β w a r
 have hvs:∃v,vs=#[v]/\ct m (.imap es) v:=by
  have hl:=h2.len;obtain⟨l⟩:=vs
  match l,hl with
  |[v],_=>exact⟨v,rfl,h2.at' 0 _ _ rfl rfl⟩
 obtain⟨v,rfl,hv⟩:=hvs;obtain⟨b,D,rfl,hb,hown,hperm,hsize⟩:=H4 L10.t26 r.imm he (bq8 (by omega) hml) (fun y hy=>bq8 (hc.2 y hy) hml) hv;refine oP (.inr (lu h1 (fun d e=>by cases e))) ?_;unfold Oper.wp;rw[h1];refine(callsIn_wide.1 (AnyZ.keys_in L7 Fence.wide 1 trivial Y (some b) w)).mono ?_
 rintro e w1 ⟨rfl,rfl⟩
 simp only[]
 have g1:vR m m w (w.alloc (.cells #[.map (some b)] (ρ7.t 23))):=⟨bZ.le_refl _,fun c o h=>by
   have hh:=r.imm c o h;have:=cq hh
   show((w.heap.push _))[c]? = _
   grind,fun _ _=>rfl,fun c hc=>by
   show((w.heap.push _))[c]? = _
   grind,by simp,⟨rfl,rfl,rfl,trivial⟩⟩
 have r1:=(r.grow g1).put hN1 (dv:=.any) (v:=.func (.func (ρ7.f 10)) #[] #[.pointer (some ⟨w.heap.size,0,none⟩)]) (.imm (.any _))
 show wpListIn _ _ _ _ _ _ _ _
 unfold wpListIn;rw[if_pos (hw2.at r1)]
 have hev:(a.put (some d1) (.func (.func (ρ7.f 10)) #[] #[.pointer (some ⟨w.heap.size,0,none⟩)])).eval (.tmp d1)=.func (.func (ρ7.f 10)) #[] #[.pointer (some ⟨w.heap.size,0,none⟩)]:=by
  have hlt:d1<a.tmps.size:=by rw[r.tn];exact av8 hN1
  simp[Act.put,Act.eval,hlt]
 have h3:(execOp (a.put (some d1) (.func (.func (ρ7.f 10)) #[] #[.pointer (some ⟨w.heap.size,0,none⟩)])).eval ⟨some d2,.call ⟨.value (.func (ρ6.f 6)),#[.tmp d1],at2⟩,ty2,pos2,after2,g2⟩).run K.P (w.alloc (.cells #[.map (some b)] (ρ7.t 23)))=.ok (.enter (ρ6.f 6) #[.func (.func (ρ7.f 10)) #[] #[.pointer (some ⟨w.heap.size,0,none⟩)]]) (w.alloc (.cells #[.map (some b)] (ρ7.t 23))):=by
  have hef:(a.put (some d1) (.func (.func (ρ7.f 10)) #[] #[.pointer (some ⟨w.heap.size,0,none⟩)])).eval (.func (ρ6.f 6))=.func (.func (ρ6.f 6)) #[] #[]:=rfl;simp only[execOp,resolve,bg8,bh9,ao9,hev,hef,Deferred.ofValue,invoke,Sem.run_bind,pure,Sem.run,Result.andThen_ok];simp[fS ef6]
 refine oP (.inr (lu h3 (fun d e=>by cases e))) ?_;unfold Oper.wp;rw[h3];have e10f:∀args w,(callFunc (ρ7.f 10) args).run K.P w=.ok (.enter (ρ7.f 10) args) w:=fun args w=>by rw[<-e10'];exact L10.f10.enters Y args w
 have hown1:(w.alloc (.cells #[.map (some b)] (ρ7.t 23))).ownsMap K.P (ρ10.t 26) oY b xs.length D:=by
  obtain⟨es',clock,q1,q2⟩:=hown;exact⟨es',clock,by rw[<-q1];exact g1.heap b hb,q2⟩
 have hbx:(w.alloc (.cells #[.map (some b)] (ρ7.t 23))).heap[w.heap.size]? = some (.cells #[.map (some b)] (ρ7.t 23)):=by
  show(w.heap.push _)[_]? = _
  simp
 have hcb:(w.alloc (.cells #[.map (some b)] (ρ7.t 23))).cell? ⟨w.heap.size,0,none⟩=some (.map (some b)):=by
  simp only[World.cell?,hbx];rfl
 have hg:=AnyZ.keys_gives L10 Fence.wide 1 trivial rfl (ae9 _) w.heap.size b xs.length D (R:=oY) (w.alloc (.cells #[.map (some b)] (ρ7.t 23))) (by simp) hcb hown1;rw[e10'] at hg;refine(callsIn_wide.1 (AnyZ.sorted_in L6 Fence.wide 4 trivial trivial trivial trivial Y (ae9 _) ⟨fun blk off cap ss W q1 q2 q3=>callsIn_wide.2 (hs1 blk off cap ss W q1 q2 q3),fun p cap W=>callsIn_wide.2 (hs2 p cap W)⟩ ef9 (ρ7.f 10) _ trivial e10f _ (Maps.size D) (by grind) (by grind) _ hg)).mono ?_
 rintro e w2 ⟨v2,ss,rfl,hss,hrow,hnil,hbel⟩
 have hts:ss.mergeSort (fun x y=>decide (x<=y))=eA xs:=mergeSort_of_perm (hss.trans hperm);rw[hts] at hrow;have hsl:ss.length=xs.length:=by rw[(hss.trans hperm).length_eq]
 have htl:(eA xs).length=xs.length:=List.length_mergeSort _;simp only[];rcases hrow.2 with ⟨rfl,hz⟩|⟨gb,cap,cur,rfl,hbase,hgb,q1,q2,q3,q4⟩
 ·have hx0:xs=[]:=aw8.1 (by omega);subst hx0;refine kk m β w2 _ ((r1.grow (uj r1.imm hbel trivial)).put hN2 (.imm ?_))
  show ct m (.lst 1 ((eA []).map _)) _
  rw[show eA []=[] from aw8.1 htl];exact .nil _ _ _
 ·let m':bZ:=fun c=>if c=gb then some (.cells cur (ρ6.t 26) (0,0)) else m c
  have hnone:m gb=none:=by
   cases hm:m gb with
   |none=>rfl
   |some o=>have:=cq (r1.imm _ _ hm);omega
  have hle:m.le m':=by
   intro c o h;have:c≠gb:=by intro e;rw[e,hnone] at h;cases h
   show(if _ then _ else _)=_
   rw[if_neg this];exact h
  have gr:vR m m' (w.alloc (.cells #[.map (some b)] (ρ7.t 23))) w2:=by
   refine⟨hle,fun c o h=>?_,fun c hc=>?_,hbel.block,hbel.size,⟨hbel.os,hbel.tape,hbel.output,trivial⟩⟩
   ·by_cases ec:c=gb
    ·grind
    ·have:m' c=m c:=by show(if _ then _ else _)=_;grind
     rw[this] at h;rw[hbel.block c (cq (r1.imm c o h))];exact r1.imm c o h
   ·grind
  refine kk m' β w2 _ ((r1.grow gr).put hN2 (.imm ?_))
  have hcur:∀(i:Nat) (y:B8),(eA xs)[i]? = some y->cur[i]? = some (str y):=by
   intro i y hy;have h5:=congrArg (fun l=>l[i]?) q4;simp only[Nat.mul_one,ax8,hy,ay8,bd8] at h5;split at h5
   ·grind
   ·cases h5
  refine .lst (arr:=cur) (T:=ρ6.t 26) (fr:=(0,0)) (fun i=>(cur[i]?).getD undef) (show(if _ then _ else _)=_ by grind) Y (by grind) q1 (bq8 q1 q2) ?_ ?_ ?_
  ·grind
  ·grind
  ·intro i j row c hi hj;rw[ax8] at hi;cases hy:(eA xs)[i]? with
   |none=>grind
   |some y=>
    rw[hy] at hi;simp only[ay8,av9] at hi;subst hi;cases j with
    |succ j=>simp at hj
    |zero=>
     simp only[bj9,av9] at hj;subst hj;rw[Nat.mul_one,bc8,hcur i y hy];exact .con _
end
end Go.Pv
namespace Go.Pv
open Go Go.RowKit Go.Maps Go.Sort Go.Proofs
theorem BD{τ:Type}{xs:List (B8×τ)}{l:List B8}(h:rJ xs=some l):(xs.length*16<=140737488355328/\∀p,p∈xs->p.1.length<=140737488355328)/\l=eA (xs.map (·.1)):=by
 grind [rJ]
section
variable{K:dE}{Q:cG}{S:St}
variable{ops:Array Oper}{rest:List Oper}{ty ty2:TypeId}{pos pos2:String}{after after2:Array Edge}{g g2:Option (Nat×Bool)}
theorem qj{τ:Type}{enc:B8->List V}{E:B8×τ->Value×V}{xs:List (B8×τ)}{l:List B8}(hl:rJ xs=some l)(henc:∀s,enc s=[sV s])(hE:∀p,(E p).1=str p.1)
  {ρ6 ρ7 ρ10:Go.Shelf.Ren} (L6:Go.Proofs.SlLaysZ.n6 K.P ρ6) (L7:Go.Proofs.SlLaysZ.n7 K.P ρ7) (L10:Go.Proofs.SlLaysZ.n10 K.P ρ10) {f6 f7 f10 f9:Nat} {d1 d2:Nat} {x:Operand} {at1 at2:Array TypeId}
  (e6:ρ6.f 6=f6) (e9:ρ6.f 9=f9) (e7:ρ7.f 7=f7) (e10:ρ7.f 10=f10) (e10':ρ10.f 10=f10) (et:ρ10.t 26=ρ6.t 26)
  (hs1:∀(blk off cap:Nat) (zs:List B8) (w:World),Holds str w blk off zs.toArray->blk<w.heap.size->zs.length<4611686018427387904->Calls K.P f9 #[.slice (some ⟨blk,off,none⟩) zs.length cap] w fun e w'=>
   e=.returned (.tuple #[])/\∃n os,w'=grow (putRow str (Sort.ahead w n) blk off (zs.mergeSort fun x y=>decide (x<=y)).toArray) os)
  (hs2:∀(p:Option Addr) (cap:Nat) (w:World),Calls K.P f9 #[.slice p 0 cap] w fun e w'=>e=.returned (.tuple #[])/\w'=w)
  (ef7:cP K.P f7=true) (ef6:cP K.P f6=true) (ef9:cP K.P f9=true)
  (hw1:aT ops S ⟨some d1,.call ⟨.value (.func f7),#[x],at1⟩,ty,pos,after,g⟩ true) (hw2:aT ops (S.put d1 .any) ⟨some d2,.call ⟨.value (.func f6),#[.tmp d1],at2⟩,ty2,pos2,after2,g2⟩ true)
  (hx:cv K S x=.imap (xs.map E)) (hN1:Nat.blt d1 K.N=true) (hN2:Nat.blt d2 K.N=true)
  (kk:aD K ops rest Q ⟨(d2,.lst 1 (l.map enc))::(d1,.any)::S.env,S.hp,S.nx⟩):
  aD K ops (⟨some d1,.call ⟨.value (.func f7),#[x],at1⟩,ty,pos,after,g⟩::⟨some d2,.call ⟨.value (.func f6),#[.tmp d1],at2⟩,ty2,pos2,after2,g2⟩::rest) Q S:=by
 obtain⟨⟨h1,h2⟩,rfl⟩:=BD hl;refine sr L6 L7 L10 (xs.map (·.1)) e6 e9 e7 e10 e10' et hs1 hs2 ef7 ef6 (fun args w=>fS ef9 args) ⟨by grind,fun y hy=>?_⟩ ?_ hw1 hw2 hx hN1 hN2 ?_
 ·grind
 ·simp_all
 ·have:enc=fun s=>[sV s]:=funext henc;rw[this] at kk;exact kk
end
end Go.Pv
namespace Go.Proofs.YtelmfadihfcgnaaGreatDoor
open Go Go.Pv
set_option maxRecDepth 100000
theorem mixed:Tryz.prog.follows .mixedOrders=true:=by kernel_rfl
structure aH where
 Kind:Int
 Name:B8
 Texts:(List B8)
 Op:Int
 N:Int
 Kids:(List aR)
structure aC where
 Name:B8
 About:B8
 When:aH
 Level:Int
structure bN where
 Rule:B8
 Subject:B8
 From:Int
 To:Int
 Owner:B8
 Level:Int
 deriving DecidableEq
structure aw where
 Rules:(List aC)
 Waivers:(List bN)
structure bu where
 Name:B8
 Value:B8
 deriving DecidableEq
structure aL where
 Name:B8
 N:Int
 deriving DecidableEq
structure aW where
 Kind:B8
 Subject:B8
 Texts:(List bu)
 Numbers:(List aL)
 deriving DecidableEq
structure cf where
 name:Bool
 texts:Bool
 number:Bool
 kids:Int
 deriving DecidableEq
structure ai where
 is:(List B8)
 begins:(List B8)
 numbers:(List Int)
 asText:Bool
 asNo:Bool
 has:Bool
 weight:Int
 deriving DecidableEq
structure dD where
 name:B8
 texts:(List B8)
 deriving DecidableEq
structure cT where
 name:B8
 texts:(List B8)
 deriving DecidableEq
structure dp where
 name:B8
 deriving DecidableEq
structure cS where
 name:B8
 op:Int
 n:Int
 deriving DecidableEq
structure dn where
 kid:KV
structure dt where
 kids:(List KV)
structure dq where
 kids:(List KV)
structure de where
 deriving DecidableEq
structure ac where
 hasText:Bool
 hasNumber:Bool
 text:B8
 number:Int
 deriving DecidableEq
structure aq where
 by_:(List (B8×ac))
 known:(Option (List (B8×Bool)))
 deriving DecidableEq
structure cR where
 conds:(List KV)
 levels:(List Int)
structure ah where
 isText:Bool
 isNumber:Bool
 text:B8
 number:Int
 deriving DecidableEq
structure aI where
 t:aH
 names:(List B8)
 can:(List (List ah))
 settled:(List Bool)
 is:(List ah)
structure bE where
 Fact:Int
 Rule:Int
 Waiver:Int
 Level:Int
 deriving DecidableEq
structure aO where
 rule:Int
 level:Int
 waivers:(List Int)
 deriving DecidableEq
def af(x:Int):List V:=[(iV x)]
theorem aX(x:Int):cN (af x):=(.cons (aN.con _) .nil)
theorem gg(x:Int):(af x).all dL=true:=rfl
instance:EI af:=⟨aX,gg⟩
def eT(x:Bool):List V:=[(bV x)]
theorem eh(x:Bool):cN (eT x):=(.cons (aN.con _) .nil)
theorem Hg(x:Bool):(eT x).all dL=true:=rfl
instance:EI eT:=⟨eh,Hg⟩
def au(x:B8):List V:=[(sV x)]
theorem bc(x:B8):cN (au x):=(.cons (aN.con _) .nil)
theorem ie(x:B8):(au x).all dL=true:=rfl
instance:EI au:=⟨bc,ie⟩
def ag(x:aH):List V:=[(iV x.Kind),(sV x.Name),(V.lst 1 (x.Texts.map au)),(iV x.Op),(iV x.N),(V.lst 6 (x.Kids.map aR.row))]
theorem cc(x:aH):cN (ag x):=(.cons (aN.con _) (.cons (aN.con _) (.cons (aN.lst _ _) (.cons (aN.con _) (.cons (aN.con _) (.cons (aN.lst _ _) .nil))))))
theorem iO(x:aH):(ag x).all dL=true:=rfl
instance:EI ag:=⟨cc,iO⟩
@[simp] theorem Kv(x:aH):(ag x).length=6:=rfl
def bM(x:bu):List V:=[(sV x.Name),(sV x.Value)]
theorem fD(x:bu):cN (bM x):=(.cons (aN.con _) (.cons (aN.con _) .nil))
theorem pS(x:bu):(bM x).all dL=true:=rfl
instance:EI bM:=⟨fD,pS⟩
@[simp] theorem Kw(x:bu):(bM x).length=2:=rfl
def bp(x:aL):List V:=[(sV x.Name),(iV x.N)]
theorem eC(x:aL):cN (bp x):=(.cons (aN.con _) (.cons (aN.con _) .nil))
theorem mF(x:aL):(bp x).all dL=true:=rfl
instance:EI bp:=⟨eC,mF⟩
@[simp] theorem HR(x:aL):(bp x).length=2:=rfl
def bv(x:aW):List V:=[(sV x.Kind),(sV x.Subject),(V.lst 2 (x.Texts.map bM)),(V.lst 2 (x.Numbers.map bp))]
theorem oS(x:aW):cN (bv x):=(.cons (aN.con _) (.cons (aN.con _) (.cons (aN.lst _ _) (.cons (aN.lst _ _) .nil))))
theorem xJ(x:aW):(bv x).all dL=true:=rfl
instance:EI bv:=⟨oS,xJ⟩
@[simp] theorem Kx(x:aW):(bv x).length=4:=rfl
def aS(x:aC):List V:=[(sV x.Name),(sV x.About),(iV x.When.Kind),(sV x.When.Name),(V.lst 1 (x.When.Texts.map au)),(iV x.When.Op),(iV x.When.N),(V.lst 6 (x.When.Kids.map aR.row)),(iV x.Level)]
theorem oG(x:aC):cN (aS x):=(.cons (aN.con _) (.cons (aN.con _) (.cons (aN.con _) (.cons (aN.con _) (.cons (aN.lst _ _) (.cons (aN.con _) (.cons (aN.con _) (.cons (aN.lst _ _) (.cons (aN.con _) .nil)))))))))
theorem pb(x:aC):(aS x).all dL=true:=rfl
instance:EI aS:=⟨oG,pb⟩
@[simp] theorem BU(x:aC):(aS x).length=9:=rfl
def cr(x:bN):List V:=[(sV x.Rule),(sV x.Subject),(iV x.From),(iV x.To),(sV x.Owner),(iV x.Level)]
theorem mh(x:bN):cN (cr x):=(.cons (aN.con _) (.cons (aN.con _) (.cons (aN.con _) (.cons (aN.con _) (.cons (aN.con _) (.cons (aN.con _) .nil))))))
theorem tP(x:bN):(cr x).all dL=true:=rfl
instance:EI cr:=⟨mh,tP⟩
@[simp] theorem HP(x:bN):(cr x).length=6:=rfl
def av(x:aw):List V:=[(V.lst 9 (x.Rules.map aS)),(V.lst 6 (x.Waivers.map cr))]
theorem dT(x:aw):cN (av x):=(.cons (aN.lst _ _) (.cons (aN.lst _ _) .nil))
theorem tQ(x:aw):(av x).all dL=true:=rfl
instance:EI av:=⟨dT,tQ⟩
@[simp] theorem HQ(x:aw):(av x).length=2:=rfl
def cy(x:bE):List V:=[(iV x.Fact),(iV x.Rule),(iV x.Waiver),(iV x.Level)]
theorem gi(x:bE):cN (cy x):=(.cons (aN.con _) (.cons (aN.con _) (.cons (aN.con _) (.cons (aN.con _) .nil))))
theorem qW(x:bE):(cy x).all dL=true:=rfl
instance:EI cy:=⟨gi,qW⟩
@[simp] theorem EL(x:bE):(cy x).length=4:=rfl
theorem Q1{d:Nat}:oI Tryz.prog (d+1) 4 1 false (fun l=>∃n,l=[.bool n]):=Fa (show Tryz.prog.underlying 4=some (.bool) by kernel_rfl) (show tm Tryz.prog 4=true by kernel_rfl)
theorem SH{d:Nat}:oI Tryz.prog (d+1) 9 1 false (fun l=>∃n,l=[.string n]):=Ik (show Tryz.prog.underlying 9=some (.string) by kernel_rfl) (show tm Tryz.prog 9=true by kernel_rfl)
theorem SI{d:Nat}:oI Tryz.prog (d+1) 3 1 false (fun l=>∃n,l=[.int .i64 n]):=Il (show Tryz.prog.underlying 3=some (.int .i64) by kernel_rfl) (show tm Tryz.prog 3=true by kernel_rfl)
def qe(x:ac):List Value:=[.bool x.hasText]++([.bool x.hasNumber]++([str x.text]++([.int .i64 x.number]++[])))
theorem H1(x y:ac)(h:qe x=qe y):x=y:=by
 obtain⟨h0,h⟩:=af8 h rfl;obtain⟨h1,h⟩:=af8 h rfl;obtain⟨h2,h⟩:=af8 h rfl;obtain⟨h3,h⟩:=af8 h rfl;obtain⟨a0,a1,a2,a3⟩:=x;obtain⟨b0,b1,b2,b3⟩:=y;obtain rfl:a0=b0:=Aj _ _ (ag9 h0).1;obtain rfl:a1=b1:=Aj _ _ (ag9 h1).1;obtain rfl:a2=b2:=eO _ _ (ag9 h2).1;obtain rfl:a3=b3:=KA _ _ (ag9 h3).1;rfl
def Dl(v:Value):Prop:=∃x:ac,v=.agg (qe x).toArray
theorem wF:∀a b:ac,(Value.agg (qe a).toArray)=.agg (qe b).toArray->a=b:=fun a b h=>H1 a b (by simpa using congrArg Array.toList (Value.agg.inj h))
theorem Q0 {d:Nat}:oI Tryz.prog (d+2) 98 4 true (fun l=>∃x:ac,l=qe x):=(AE (d:=d+1) (fs:=[(Field.mk "hasText" 4 0 false "" "provender/policy" 0),(Field.mk "hasNumber" 4 1 false "" "provender/policy" 1),(Field.mk "text" 9 2 false "" "provender/policy" 8),(Field.mk "number" 3 3 false "" "provender/policy" 24)]) (by kernel_rfl) (by kernel_rfl) (by kernel_rfl) (by kernel_rfl) (p9 Q1 (by simp) rfl (by simp) (p9 Q1 (by simp) rfl (by simp) (p9 SH (by simp) rfl (by simp) (p9 SI (by simp) rfl (by simp) KO))))).weaken (fun l ⟨x,hx⟩=>by subst hx;exact⟨_,_,rfl,⟨_,rfl⟩,⟨_,_,rfl,⟨_,rfl⟩,⟨_,_,rfl,⟨_,rfl⟩,⟨_,_,rfl,⟨_,rfl⟩,rfl⟩⟩⟩⟩)
theorem Q2:oI Tryz.prog 10000 98 4 true (fun l=>∃x:ac,l=qe x):=Q0 (d:=9998)
def ba(p:B8×ac):Value×V:=(str p.1,(V.agg [(bV p.2.hasText),(bV p.2.hasNumber),(sV p.2.text),(iV p.2.number)]))
abbrev dA(v:ac):V:=(V.agg [(bV v.hasText),(bV v.hasNumber),(sV v.text),(iV v.number)])
theorem kh(xs:List (B8×ac))(k:B8)(v:ac):kq (str k) (dA v) (xs.map ba) ((cK xs k v).map ba):=tG (kv:=fun k=>str k) (ev:=dA) eO xs k v
theorem vB(xs:List (B8×ac))(k:B8):sH (str k) (xs.map ba) ((iP xs k).map ba):=AF (kv:=fun k=>str k) (ev:=dA) eO xs k
theorem fG(xs:List (B8×ac))(k:B8):jA (str k) (xs.map ba) ((aY xs k).map dA):=mI (kv:=fun k=>str k) (ev:=dA) eO xs k
theorem bR{xs:List (B8×ac)}:∀p,p∈xs.map ba->aN p.2:=by
 intro p hp;obtain⟨x,_,rfl⟩:=bb9.1 hp;exact(aN.agg (.cons (aN.con _) (.cons (aN.con _) (.cons (aN.con _) (.cons (aN.con _) .nil)))))
instance:EM ba:=⟨fun _=>(aN.agg (.cons (aN.con _) (.cons (aN.con _) (.cons (aN.con _) (.cons (aN.con _) .nil)))))⟩
theorem dB{xs:List (B8×ac)}:∀p,p∈xs.map ba->oR p.1:=by
 intro p hp;obtain⟨x,_,rfl⟩:=bb9.1 hp;exact⟨_,Y⟩
def bo(p:B8×Bool):Value×V:=(str p.1,(bV p.2))
abbrev eY(v:Bool):V:=(bV v)
theorem qc(xs:List (B8×Bool))(k:B8)(v:Bool):kq (str k) (eY v) (xs.map bo) ((cK xs k v).map bo):=tG (kv:=fun k=>str k) (ev:=eY) eO xs k v
theorem yp(xs:List (B8×Bool))(k:B8):sH (str k) (xs.map bo) ((iP xs k).map bo):=AF (kv:=fun k=>str k) (ev:=eY) eO xs k
theorem qd(xs:List (B8×Bool))(k:B8):jA (str k) (xs.map bo) ((aY xs k).map eY):=mI (kv:=fun k=>str k) (ev:=eY) eO xs k
theorem cg{xs:List (B8×Bool)}:∀p,p∈xs.map bo->aN p.2:=by
 intro p hp;obtain⟨x,_,rfl⟩:=bb9.1 hp;exact(aN.con _)
instance:EM bo:=⟨fun _=>(aN.con _)⟩
theorem go{xs:List (B8×Bool)}:∀p,p∈xs.map bo->oR p.1:=by
 intro p hp;obtain⟨x,_,rfl⟩:=bb9.1 hp;exact⟨_,Y⟩
def ak(x:aq):List V:=[(V.imap (x.by_.map ba)),(j8 bo x.known)]
theorem bG(x:aq):cN (ak x):=(.cons (aN.imap _) (.cons (eV _) .nil))
theorem bJ(x:aq):(ak x).all dL=true:=by unfold ak;simp only[ag8,List.all_nil,He,ah9];rfl
instance:EI ak:=⟨bG,bJ⟩
theorem aZ(x:aq):xO (ak x)=true:=by unfold ak;cases x.known<;>rfl
@[simp] theorem zi(x:aq):(ak x).length=2:=rfl
def am(x:ac):List V:=[(bV x.hasText),(bV x.hasNumber),(sV x.text),(iV x.number)]
theorem ca(x:ac):cN (am x):=(.cons (aN.con _) (.cons (aN.con _) (.cons (aN.con _) (.cons (aN.con _) .nil))))
theorem ic(x:ac):(am x).all dL=true:=rfl
instance:EI am:=⟨ca,ic⟩
@[simp] theorem Ae(x:ac):(am x).length=4:=rfl
def dF(x:cR):List V:=[(V.lst 1 (x.conds.map KV.enc)),(V.lst 1 (x.levels.map af))]
theorem ly(x:cR):cN (dF x):=(.cons (aN.lst _ _) (.cons (aN.lst _ _) .nil))
theorem mu(x:cR):(dF x).all dL=true:=rfl
instance:EI dF:=⟨ly,mu⟩
@[simp] theorem zk(x:cR):(dF x).length=2:=rfl
def ab(x:ah):List V:=[(bV x.isText),(bV x.isNumber),(sV x.text),(iV x.number)]
theorem aG(x:ah):cN (ab x):=(.cons (aN.con _) (.cons (aN.con _) (.cons (aN.con _) (.cons (aN.con _) .nil))))
theorem eM(x:ah):(ab x).all dL=true:=rfl
instance:EI ab:=⟨aG,eM⟩
@[simp] theorem sT(x:ah):(ab x).length=4:=rfl
def b9(x:(List ah)):List V:=[V.lst 4 (x.map ab)]
theorem c5(x:(List ah)):cN (b9 x):=(.cons (aN.lst _ _) .nil)
theorem rM(x:(List ah)):(b9 x).all dL=true:=rfl
instance:EI b9:=⟨c5,rM⟩
def aM(x:aI):List V:=[(iV x.t.Kind),(sV x.t.Name),(V.lst 1 (x.t.Texts.map au)),(iV x.t.Op),(iV x.t.N),(V.lst 6 (x.t.Kids.map aR.row)),(V.lst 1 (x.names.map au)),(V.lst 1 (x.can.map b9)),(V.lst 1 (x.settled.map eT)),(V.lst 4 (x.is.map ab))]
theorem ij(x:aI):cN (aM x):=(.cons (aN.con _) (.cons (aN.con _) (.cons (aN.lst _ _) (.cons (aN.con _) (.cons (aN.con _) (.cons (aN.lst _ _) (.cons (aN.lst _ _) (.cons (aN.lst _ _) (.cons (aN.lst _ _) (.cons (aN.lst _ _) .nil))))))))))
theorem iy(x:aI):(aM x).all dL=true:=rfl
instance:EI aM:=⟨ij,iy⟩
@[simp] theorem sh(x:aI):(aM x).length=10:=rfl
def ci(x:dD):List V:=[(sV x.name),(V.lst 1 (x.texts.map au))]
theorem lz(x:dD):cN (ci x):=(.cons (aN.con _) (.cons (aN.lst _ _) .nil))
theorem mw(x:dD):(ci x).all dL=true:=rfl
instance:EI ci:=⟨lz,mw⟩
@[simp] theorem zl(x:dD):(ci x).length=2:=rfl
def bL(x:cT):List V:=[(sV x.name),(V.lst 1 (x.texts.map au))]
theorem jm(x:cT):cN (bL x):=(.cons (aN.con _) (.cons (aN.lst _ _) .nil))
theorem jH(x:cT):(bL x).all dL=true:=rfl
instance:EI bL:=⟨jm,jH⟩
@[simp] theorem vp(x:cT):(bL x).length=2:=rfl
def cj(x:dp):List V:=[(sV x.name)]
theorem kN(x:dp):cN (cj x):=(.cons (aN.con _) .nil)
theorem lm(x:dp):(cj x).all dL=true:=rfl
instance:EI cj:=⟨kN,lm⟩
@[simp] theorem xY(x:dp):(cj x).length=1:=rfl
def bK(x:cS):List V:=[(sV x.name),(iV x.op),(iV x.n)]
theorem jl(x:cS):cN (bK x):=(.cons (aN.con _) (.cons (aN.con _) (.cons (aN.con _) .nil)))
theorem jG(x:cS):(bK x).all dL=true:=rfl
instance:EI bK:=⟨jl,jG⟩
@[simp] theorem vo(x:cS):(bK x).length=3:=rfl
def cz(x:dn):List V:=[(V.ifc x.kid.t x.kid.d)]
theorem kM(x:dn):cN (cz x):=(.cons (aN.ifc _ _) .nil)
theorem ll(x:dn):(cz x).all dL=true:=rfl
instance:EI cz:=⟨kM,ll⟩
@[simp] theorem xX(x:dn):(cz x).length=1:=rfl
def cn(x:dt):List V:=[(V.lst 1 (x.kids.map KV.enc))]
theorem kP(x:dt):cN (cn x):=(.cons (aN.lst _ _) .nil)
theorem lq(x:dt):(cn x).all dL=true:=rfl
instance:EI cn:=⟨kP,lq⟩
@[simp] theorem x0(x:dt):(cn x).length=1:=rfl
def cm(x:dq):List V:=[(V.lst 1 (x.kids.map KV.enc))]
theorem kO(x:dq):cN (cm x):=(.cons (aN.lst _ _) .nil)
theorem lp(x:dq):(cm x).all dL=true:=rfl
instance:EI cm:=⟨kO,lp⟩
@[simp] theorem xZ(x:dq):(cm x).length=1:=rfl
def cC(x:de):List V:=[]
theorem kc(x:de):cN (cC x):=.nil
theorem kG(x:de):(cC x).all dL=true:=rfl
instance:EI cC:=⟨kc,kG⟩
@[simp] theorem wy(x:de):(cC x).length=0:=rfl
def bQ(x:ai):List V:=[(V.lst 1 (x.is.map au)),(V.lst 1 (x.begins.map au)),(V.lst 1 (x.numbers.map af)),(bV x.asText),(bV x.asNo),(bV x.has),(iV x.weight)]
theorem kL(x:ai):cN (bQ x):=(.cons (aN.lst _ _) (.cons (aN.lst _ _) (.cons (aN.lst _ _) (.cons (aN.con _) (.cons (aN.con _) (.cons (aN.con _) (.cons (aN.con _) .nil)))))))
theorem lj(x:ai):(bQ x).all dL=true:=rfl
instance:EI bQ:=⟨kL,lj⟩
@[simp] theorem xW(x:ai):(bQ x).length=7:=rfl
def bk(x:aO):List V:=[(iV x.rule),(iV x.level),(V.lst 1 (x.waivers.map af))]
theorem dj(x:aO):cN (bk x):=(.cons (aN.con _) (.cons (aN.con _) (.cons (aN.lst _ _) .nil)))
theorem ms(x:aO):(bk x).all dL=true:=rfl
instance:EI bk:=⟨dj,ms⟩
@[simp] theorem zj(x:aO):(bk x).length=3:=rfl
def cU(x:cf):List V:=[(bV x.name),(bV x.texts),(bV x.number),(iV x.kids)]
theorem mL(x:cf):cN (cU x):=(.cons (aN.con _) (.cons (aN.con _) (.cons (aN.con _) (.cons (aN.con _) .nil))))
theorem oE(x:cf):(cU x).all dL=true:=rfl
instance:EI cU:=⟨mL,oE⟩
@[simp] theorem Bo(x:cf):(cU x).length=4:=rfl
def bX(x:ai):List V:=[(V.dsl 9 1 (x.is.map au)),(V.dsl 9 1 (x.begins.map au)),(V.dsl 3 1 (x.numbers.map af)),(bV x.asText),(bV x.asNo),(bV x.has),(iV x.weight)]
theorem eg:Ry bX bQ:=fun x=>(.cons (xo _ _ bc _) (.cons (xo _ _ bc _) (.cons (xo _ _ aX _) (.cons (sI _) (.cons (sI _) (.cons (sI _) (.cons (sI _) .nil)))))))
@[simp] theorem wz(x:ai):(bX x).length=7:=rfl
instance:EK bX:=⟨fun x c hc=>by
 obtain⟨j,hj⟩:=ba9 hc;have hl:=(ba8.1 hj).1;rw[(eg x).1] at hl;exact((eg x).2 j c _ hj (ax9 hl)).2⟩
def dy(p:B8×(Option ai)):Value×V:=(str p.1,(xH bQ p.2))
abbrev kl(v:(Option ai)):V:=(xH bQ v)
theorem uB(xs:List (B8×(Option ai)))(k:B8):jA (str k) (xs.map dy) ((aY xs k).map kl):=mI (kv:=fun k=>str k) (ev:=kl) eO xs k
instance:EM dy:=⟨fun _=>(H2 _)⟩
theorem uC{xs:List (B8×(Option ai))}:∀p,p∈xs.map dy->oR p.1:=by
 intro p hp;obtain⟨x,_,rfl⟩:=bb9.1 hp;exact⟨_,Y⟩
def aQ(p:B8×(Option ai)):Value×V:=(str p.1,(sk 161 bX p.2))
theorem ki(p:B8×(Option ai)):(aQ p).1=(dy p).1/\vN (aQ p).2 (dy p).2/\ef (aQ p).2:=⟨rfl,F6 161 eg p.2,wB 161 p.2⟩
instance:P5 aQ:=⟨fun p=>(ki p).2.2⟩
theorem mU{xs:List (B8×(Option ai))}:∀p,p∈xs.map aQ->oR p.1:=by
 intro p hp;obtain⟨x,_,rfl⟩:=bb9.1 hp;exact⟨_,Y⟩
def bS(p:ac×Bool):Value×V:=(.agg (qe p.1).toArray,(bV p.2))
abbrev gp(v:Bool):V:=(bV v)
theorem vC(xs:List (ac×Bool))(k:ac)(v:Bool):kq (.agg (qe k).toArray) (gp v) (xs.map bS) ((cK xs k v).map bS):=tG (kv:=fun k=>.agg (qe k).toArray) (ev:=gp) wF xs k v
theorem vE(xs:List (ac×Bool))(k:ac):jA (.agg (qe k).toArray) (xs.map bS) ((aY xs k).map gp):=mI (kv:=fun k=>.agg (qe k).toArray) (ev:=gp) wF xs k
theorem cV{xs:List (ac×Bool)}:∀p,p∈xs.map bS->aN p.2:=by
 intro p hp;obtain⟨x,_,rfl⟩:=bb9.1 hp;exact(aN.con _)
instance:EM bS:=⟨fun _=>(aN.con _)⟩
theorem oW{xs:List (ac×Bool)}:∀p,p∈xs.map bS->(Dl) p.1:=by
 intro p hp;obtain⟨x,_,rfl⟩:=bb9.1 hp;exact⟨_,Y⟩
def cp(p:B8×(List ac)):Value×V:=(str p.1,(V.lst 4 (p.2.map am)))
abbrev kj(v:(List ac)):V:=(V.lst 4 (v.map am))
theorem uz(xs:List (B8×(List ac)))(k:B8):jA (str k) (xs.map cp) ((aY xs k).map kj):=mI (kv:=fun k=>str k) (ev:=kj) eO xs k
instance:EM cp:=⟨fun _=>(aN.lst _ _)⟩
theorem uA{xs:List (B8×(List ac))}:∀p,p∈xs.map cp->oR p.1:=by
 intro p hp;obtain⟨x,_,rfl⟩:=bb9.1 hp;exact⟨_,Y⟩
def bq(p:B8×(List ac)):Value×V:=(str p.1,(V.dsl 98 4 (p.2.map am)))
theorem oV(p:B8×(List ac)):(bq p).1=(cp p).1/\vN (bq p).2 (cp p).2/\ef (bq p).2:=⟨rfl,zu ca _,ef.dsl _ _ _⟩
instance:P5 bq:=⟨fun p=>(oV p).2.2⟩
theorem uy{xs:List (B8×(List ac))}:∀p,p∈xs.map bq->oR p.1:=by
 intro p hp;obtain⟨x,_,rfl⟩:=bb9.1 hp;exact⟨_,Y⟩
theorem Nr:zeroCells Tryz.prog 29=some [.string ⟨#[]⟩,.string ⟨#[]⟩,.slice none 0 0,.slice none 0 0]:=by kernel_rfl
theorem Qf:oC Tryz.prog 46 9=true:=by kernel_rfl
theorem tC9:tm Tryz.prog 9=true:=by kernel_rfl
theorem vX:kA Tryz.prog 9=true:=by kernel_rfl
theorem tA:fq Tryz.prog 92 9 4=true:=by kernel_rfl
theorem eL:kX Tryz.prog 9 oR:=ub (by kernel_rfl)
theorem Ni:(Tryz.prog.info? 4).bind (·.zero)=some (.bool false):=by kernel_rfl
theorem pN:cZ Tryz.prog 23=true:=by kernel_rfl
theorem zE:zeroCells Tryz.prog 25=some [.int .i64 0,.string ⟨#[]⟩,.slice none 0 0,.int .i64 0,.int .i64 0,.slice none 0 0]:=by kernel_rfl
theorem Qb:zeroCells Tryz.prog 208=some [.bool false,.bool false,.bool false,.int .i64 0,.bool false,.bool false,.bool false,.int .i64 0,.bool false,.bool false,.bool false,.int .i64 0,.bool false,.bool false,.bool false,.int .i64 0,.bool false,.bool false,.bool false,.int .i64 0,.bool false,.bool false,.bool false,.int .i64 0,.bool false,.bool false,.bool false,.int .i64 0,.bool false,.bool false,.bool false,.int .i64 0,.bool false,.bool false,.bool false,.int .i64 0]:=by kernel_rfl
theorem Mp:zeroCells Tryz.prog 207=some [.bool false,.bool false,.bool false,.int .i64 0]:=by kernel_rfl
theorem Ka:oL Tryz.prog 208 9 4=true:=by kernel_rfl
theorem GJ:o9 Tryz.prog 208 9 4 207=true:=by kernel_rfl
theorem jM:cZ Tryz.prog 22=true:=by kernel_rfl
theorem Gq:oC Tryz.prog 22 1=true:=by kernel_rfl
theorem Og:cP Tryz.prog 163=true:=by kernel_rfl
theorem Oh:cP Tryz.prog 150=true:=by kernel_rfl
theorem Mq:zeroCells Tryz.prog 122=some [.slice none 0 0,.slice none 0 0]:=by kernel_rfl
theorem fv:eQ Tryz.prog 51 3 1 8=true:=by kernel_rfl
theorem zh:zeroCells Tryz.prog 3=some [.int .i64 0]:=by kernel_rfl
theorem sK:cZ Tryz.prog 51=true:=by kernel_rfl
theorem Qe:oC Tryz.prog 51 1=true:=by kernel_rfl
theorem GI:eQ Tryz.prog 109 75 1 16=true:=by kernel_rfl
theorem P7:zeroCells Tryz.prog 75=some [.nilIface]:=by kernel_rfl
theorem NC:Program.concrete Tryz.prog 147=true:=by kernel_rfl
theorem NB:Program.concrete Tryz.prog 148=true:=by kernel_rfl
theorem NA:Program.concrete Tryz.prog 150=true:=by kernel_rfl
theorem Nz:Program.concrete Tryz.prog 152=true:=by kernel_rfl
theorem Ny:Program.concrete Tryz.prog 154=true:=by kernel_rfl
theorem Nx:Program.concrete Tryz.prog 156=true:=by kernel_rfl
theorem Nw:Program.concrete Tryz.prog 157=true:=by kernel_rfl
theorem Nv:Program.concrete Tryz.prog 159=true:=by kernel_rfl
theorem Gz:qJ Tryz.prog 147=true:=by kernel_rfl
theorem Dv:cP Tryz.prog 89=true:=by kernel_rfl
theorem tS4:Mo Tryz.prog 4 1=true:=by kernel_rfl
theorem hJ:eQ Tryz.prog 22 9 1 16=true:=by kernel_rfl
theorem Np:(Tryz.prog.info? 147).bind (·.zero)=some (.agg #[.string ⟨#[]⟩,.slice none 0 0]):=by kernel_rfl
theorem Gy:qJ Tryz.prog 148=true:=by kernel_rfl
theorem No:(Tryz.prog.info? 148).bind (·.zero)=some (.agg #[.string ⟨#[]⟩,.slice none 0 0]):=by kernel_rfl
theorem Gx:qJ Tryz.prog 150=true:=by kernel_rfl
theorem Nn:(Tryz.prog.info? 150).bind (·.zero)=some (.agg #[.string ⟨#[]⟩]):=by kernel_rfl
theorem Gw:qJ Tryz.prog 152=true:=by kernel_rfl
theorem Nm:(Tryz.prog.info? 152).bind (·.zero)=some (.agg #[.string ⟨#[]⟩,.int .i64 0,.int .i64 0]):=by kernel_rfl
theorem Gu:qJ Tryz.prog 154=true:=by kernel_rfl
theorem Nl:(Tryz.prog.info? 154).bind (·.zero)=some (.agg #[.nilIface]):=by kernel_rfl
theorem Gt:qJ Tryz.prog 156=true:=by kernel_rfl
theorem Nk:(Tryz.prog.info? 156).bind (·.zero)=some (.agg #[.slice none 0 0]):=by kernel_rfl
theorem Gs:qJ Tryz.prog 157=true:=by kernel_rfl
theorem Nj:(Tryz.prog.info? 157).bind (·.zero)=some (.agg #[.slice none 0 0]):=by kernel_rfl
theorem Dw:cP Tryz.prog 33=true:=by kernel_rfl
theorem QS:cP Tryz.prog 56=true:=by kernel_rfl
theorem Qh:Bv Tryz.prog 122 2=true:=by kernel_rfl
theorem MG:cP Tryz.prog 69=true:=by kernel_rfl
theorem pa:fq Tryz.prog 77 9 103=true:=by kernel_rfl
theorem QW:cP Tryz.prog 34=true:=by kernel_rfl
theorem QT:cP Tryz.prog 48=true:=by kernel_rfl
theorem MK:cP Tryz.prog 47=true:=by kernel_rfl
theorem Cf:cP Tryz.prog 109=true:=by kernel_rfl
theorem J7:zeroCells Tryz.prog 9=some [.string ⟨#[]⟩]:=by kernel_rfl
theorem j5:fq Tryz.prog 91 9 98=true:=by kernel_rfl
theorem vW:(Tryz.prog.info? 98).bind (·.zero)=some (.agg #[.bool false,.bool false,.string ⟨#[]⟩,.int .i64 0]):=by kernel_rfl
theorem J6:zeroCells Tryz.prog 98=some [.bool false,.bool false,.string ⟨#[]⟩,.int .i64 0]:=by kernel_rfl
theorem Nq:(Tryz.prog.info? 103).bind (·.zero)=some (.pointer none):=by kernel_rfl
theorem CR:fq Tryz.prog 167 98 4=true:=by kernel_rfl
theorem GA:kX Tryz.prog 98 Dl:=HW Q2 (by kernel_rfl) (fun v ⟨x,hx⟩=>⟨_,⟨x,rfl⟩,hx⟩)
theorem xr:fq Tryz.prog 163 9 169=true:=by kernel_rfl
theorem Gp:(Tryz.prog.info? 169).bind (·.zero)=some (.slice none 0 0):=by kernel_rfl
theorem tB:eQ Tryz.prog 169 98 4 32=true:=by kernel_rfl
theorem GB:cZ Tryz.prog 169=true:=by kernel_rfl
theorem QR:cP Tryz.prog 59=true:=by kernel_rfl
theorem Of:cP Tryz.prog 186=true:=by kernel_rfl
theorem QX:cP Tryz.prog 29=true:=by kernel_rfl
theorem Sq:Tryz.prog.underlying 21=some (.int .i32):=by kernel_rfl
theorem Ih:cP Tryz.prog 237=true:=by kernel_rfl
theorem Oe:cP Tryz.prog 188=true:=by kernel_rfl
theorem QO:cP Tryz.prog 90=true:=by kernel_rfl
theorem QV:cP Tryz.prog 35=true:=by kernel_rfl
theorem vq:Bv Tryz.prog 94 2=true:=by kernel_rfl
theorem ND:tm Tryz.prog 92=true:=by kernel_rfl
theorem CS:zz Tryz.prog 92=true:=by kernel_rfl
theorem yn:cP Tryz.prog 281=true:=by kernel_rfl
theorem xB:∀(v:Value) (args:Array Value) (w:World),(callMethod (.iface 147 v) "provender/policy.holds" args).run Tryz.prog w=.ok (.enter 282 (#[v]++args)) w:=fun v args w=>by kernel_rfl
theorem xA:∀(v:Value) (args:Array Value) (w:World),(callMethod (.iface 148 v) "provender/policy.holds" args).run Tryz.prog w=.ok (.enter 283 (#[v]++args)) w:=fun v args w=>by kernel_rfl
theorem xz:∀(v:Value) (args:Array Value) (w:World),(callMethod (.iface 150 v) "provender/policy.holds" args).run Tryz.prog w=.ok (.enter 285 (#[v]++args)) w:=fun v args w=>by kernel_rfl
theorem xy:∀(v:Value) (args:Array Value) (w:World),(callMethod (.iface 152 v) "provender/policy.holds" args).run Tryz.prog w=.ok (.enter 286 (#[v]++args)) w:=fun v args w=>by kernel_rfl
theorem xx:∀(v:Value) (args:Array Value) (w:World),(callMethod (.iface 154 v) "provender/policy.holds" args).run Tryz.prog w=.ok (.enter 288 (#[v]++args)) w:=fun v args w=>by kernel_rfl
theorem xw:∀(v:Value) (args:Array Value) (w:World),(callMethod (.iface 156 v) "provender/policy.holds" args).run Tryz.prog w=.ok (.enter 289 (#[v]++args)) w:=fun v args w=>by kernel_rfl
theorem xv:∀(v:Value) (args:Array Value) (w:World),(callMethod (.iface 157 v) "provender/policy.holds" args).run Tryz.prog w=.ok (.enter 290 (#[v]++args)) w:=fun v args w=>by kernel_rfl
theorem xu:∀(v:Value) (args:Array Value) (w:World),(callMethod (.iface 159 v) "provender/policy.holds" args).run Tryz.prog w=.ok (.enter 291 (#[v]++args)) w:=fun v args w=>by kernel_rfl
theorem MF:cP Tryz.prog 71=true:=by kernel_rfl
theorem QQ:cP Tryz.prog 70=true:=by kernel_rfl
theorem ML:cP Tryz.prog 36=true:=by kernel_rfl
theorem QN:cP Tryz.prog 91=true:=by kernel_rfl
theorem P9:zeroCells Tryz.prog 39=some [.string ⟨#[]⟩,.string ⟨#[]⟩]:=by kernel_rfl
theorem GG:eQ Tryz.prog 26 39 2 32=true:=by kernel_rfl
theorem J9:cZ Tryz.prog 26=true:=by kernel_rfl
theorem P8:zeroCells Tryz.prog 41=some [.string ⟨#[]⟩,.int .i64 0]:=by kernel_rfl
theorem GF:eQ Tryz.prog 27 41 2 24=true:=by kernel_rfl
theorem J8:cZ Tryz.prog 27=true:=by kernel_rfl
theorem QU:cP Tryz.prog 37=true:=by kernel_rfl
theorem Qa:zeroCells Tryz.prog 214=some [.string ⟨#[]⟩,.string ⟨#[]⟩,.string ⟨#[]⟩,.string ⟨#[]⟩,.string ⟨#[]⟩,.string ⟨#[]⟩,.string ⟨#[]⟩,.string ⟨#[]⟩,.string ⟨#[]⟩,.string ⟨#[]⟩,.string ⟨#[]⟩,.string ⟨#[]⟩,.string ⟨#[]⟩,.string ⟨#[]⟩,.string ⟨#[]⟩,.string ⟨#[]⟩,.string ⟨#[]⟩,.string ⟨#[]⟩,.string ⟨#[]⟩,.string ⟨#[]⟩]:=by kernel_rfl
theorem CT:oL Tryz.prog 214 20 1=true:=by kernel_rfl
theorem kC:eQ Tryz.prog 23 25 6 88=true:=by kernel_rfl
theorem MH:cP Tryz.prog 67=true:=by kernel_rfl
theorem MI:cP Tryz.prog 66=true:=by kernel_rfl
theorem MJ:cP Tryz.prog 51=true:=by kernel_rfl
theorem Du:cP Tryz.prog 97=true:=by kernel_rfl
theorem mA:zeroCells Tryz.prog 142=some [.bool false,.bool false,.string ⟨#[]⟩,.int .i64 0]:=by kernel_rfl
theorem ix:eQ Tryz.prog 138 142 4 32=true:=by kernel_rfl
theorem Ns:eQ Tryz.prog 257 5 1 1=true:=by kernel_rfl
theorem tZ5:zeroCells Tryz.prog 5=some [.int .u8 0]:=by kernel_rfl
theorem NE:sJ Tryz.prog 257=true:=by kernel_rfl
theorem GC:cZ Tryz.prog 138=true:=by kernel_rfl
theorem Ok:cP Tryz.prog 124=true:=by kernel_rfl
theorem GH:eQ Tryz.prog 136 138 1 24=true:=by kernel_rfl
theorem Qd:zeroCells Tryz.prog 138=some [.slice none 0 0]:=by kernel_rfl
theorem GD:cZ Tryz.prog 136=true:=by kernel_rfl
theorem Nt:eQ Tryz.prog 137 4 1 1=true:=by kernel_rfl
theorem tZ4:zeroCells Tryz.prog 4=some [.bool false]:=by kernel_rfl
theorem QP:cP Tryz.prog 82=true:=by kernel_rfl
theorem Oj:cP Tryz.prog 126=true:=by kernel_rfl
theorem Mr:Mo Tryz.prog 142 4=true:=by kernel_rfl
theorem Oi:cP Tryz.prog 127=true:=by kernel_rfl
theorem ME:cP Tryz.prog 85=true:=by kernel_rfl
theorem QM:cP Tryz.prog 99=true:=by kernel_rfl
theorem Ms:eQ Tryz.prog 50 29 4 80=true:=by kernel_rfl
theorem Bz:∀T,T∈([147,148,150,152,154,156,157,159]:List Nat)->∀(v:Value) (w:World),(nilAhead (Tryz.prog.types.size+Made.depth) T v "provender/policy.holds").run Tryz.prog w=.ok (some false) w:=fun T h=>by
 simp only[aq9,List.not_mem_nil,or_false] at h;rcases h with rfl|rfl|rfl|rfl|rfl|rfl|rfl|rfl
 all_goals exact fun v w=>by kernel_rfl
theorem Qc:zeroCells Tryz.prog 197=some [.int .i64 0,.int .i64 0,.slice none 0 0]:=by kernel_rfl
theorem Nu:eQ Tryz.prog 115 197 3 40=true:=by kernel_rfl
theorem Sp:zeroCells Tryz.prog 61=some [.int .i64 0,.int .i64 0,.int .i64 0,.int .i64 0]:=by kernel_rfl
theorem Qg:eQ Tryz.prog 54 61 4 32=true:=by kernel_rfl
theorem MM:cP Tryz.prog 19=true:=by kernel_rfl
def tt:TT:=[(3,[.C,.S 1]),(4,[.C,.S 1,.B]),(5,[.U]),(9,[.C,.Str,.Z 1 [.string ⟨#[]⟩],.S 1]),(11,[.Fn]),(21,[.I .i32]),(22,[.C,.Sn,.Sl 1,.S 1,.El 9 1 16]),(23,[.C,.Sn,.Sl 6,.Fn,.El 25 6 88,.S 1]),(24,[.Fn]),(25,[.A 6,.S 6,.F 5 5,.Z 6 [.int .i64 0,.string ⟨#[]⟩,.slice none 0 0,.int .i64 0,.int .i64 0,.slice none 0 0],.F 0 0,.F 1 1,.F 2 2,.F 3 3,.F 4 4,.Pl [(0,1),(1,1),(2,1),(3,1),(4,1),(5,1)]]),(26,[.C,.El 39 2 32,.Sn,.S 1,.Sl 2]),(27,[.C,.El 41 2 24,.Sn,.S 1,.Sl 2]),(29,[.S 4,.Z 4 [.string ⟨#[]⟩,.string ⟨#[]⟩,.slice none 0 0,.slice none 0 0],.Pl [(0,1),(1,1),(2,1),(3,1)],.A 4,.F 2 2,.F 3 3,.F 0 0,.F 1 1]),(30,[.Fn]),(31,[.Fn]),(32,[.Fn]),(38,[.Fn]),(39,[.Z 2 [.string ⟨#[]⟩,.string ⟨#[]⟩],.Pl [(0,1),(1,1)],.Fn,.A 2,.S 2,.F 0 0,.F 1 1]),(40,[.Fn]),(41,[.Z 2 [.string ⟨#[]⟩,.int .i64 0],.Pl [(0,1),(1,1)],.Fn,.A 2,.S 2,.F 0 0,.F 1 1]),(43,[.Fn]),(44,[.Fn]),(46,[.C,.Sn,.Sl 9]),(47,[.C,.Sn,.Sl 6,.S 1]),(49,[.S 2,.A 2,.F 0 0,.F 1 1]),(50,[.Fn,.Sn,.Sl 4]),(51,[.El 3 1 8,.Sn,.Sl 1,.C,.S 1,.Fn]),(54,[.Fn,.El 61 4 32,.Sn,.Sl 4]),(55,[.Fn]),(58,[.A 9,.Z 9 [.string ⟨#[]⟩,.string ⟨#[]⟩,.int .i64 0,.string ⟨#[]⟩,.slice none 0 0,.int .i64 0,.int .i64 0,.slice none 0 0,.int .i64 0],.S 9,.F 0 0,.F 1 1,.F 2 2,.F 3 8]),(60,[.Fn]),(61,[.Z 4 [.int .i64 0,.int .i64 0,.int .i64 0,.int .i64 0],.Pl [(0,1),(1,1),(2,1),(3,1)],.S 4,.F 2 2,.F 3 3,.A 4,.Fn]),(62,[.Fn]),(64,[.Fn]),(65,[.Fn]),(66,[.Fn]),(68,[.Fn]),(72,[.Fn]),(73,[.Fn]),(74,[.Fn]),(75,[.C]),(77,[.S 1,.C]),(79,[.Fn]),(80,[.Z 1 [.pointer none],.S 1,.C,.Fn]),(81,[.Fn]),(82,[.C]),(83,[.Fn]),(86,[.Fn]),(87,[.Fn]),(88,[.Fn]),(91,[.C]),(92,[.C,.Fn]),(93,[.Fn]),(94,[.Z 2 [.map none,.map none],.Pl [(0,1),(1,1)],.A 2,.F 0 0,.F 1 1,.Fn,.S 2]),(95,[.Fn]),(96,[.Fn]),(98,[.Z 4 [.bool false,.bool false,.string ⟨#[]⟩,.int .i64 0],.S 4,.A 4,.Pl [(0,1),(1,1),(2,1),(3,1)],.F 0 0,.F 2 2,.F 1 1,.F 3 3,.Fn]),(105,[.Fn]),(106,[.Fn]),(109,[.El 75 1 16,.Sn,.Sl 1,.C]),(111,[.Fn]),(112,[.Fn]),(113,[.Fn]),(115,[.El 197 3 40,.Sn,.Sl 3]),(116,[.Fn]),(117,[.Fn]),(118,[.Fn]),(119,[.Fn]),(120,[.Fn]),(121,[.Fn]),(122,[.Z 2 [.slice none 0 0,.slice none 0 0],.Pl [(0,1),(1,1)],.S 2,.F 1 1,.A 2,.F 0 0]),(124,[.Fn]),(125,[.Fn]),(126,[.Fn]),(128,[.Fn]),(129,[.Fn]),(130,[.Fn]),(131,[.Fn]),(132,[.Fn]),(134,[.Fn]),(136,[.C,.S 1,.Sl 1]),(137,[.S 1,.C,.Sl 1]),(138,[.Fn,.El 142 4 32,.Sn,.S 1,.C,.Sl 4]),(140,[.Z 10 [.int .i64 0,.string ⟨#[]⟩,.slice none 0 0,.int .i64 0,.int .i64 0,.slice none 0 0,.slice none 0 0,.slice none 0 0,.slice none 0 0,.slice none 0 0],.Pl [(0,6),(6,1),(7,1),(8,1),(9,1)],.S 10,.F 1 6,.F 2 7,.F 3 8,.F 4 9,.F 0 0]),(142,[.Z 4 [.bool false,.bool false,.string ⟨#[]⟩,.int .i64 0],.Pl [(0,1),(1,1),(2,1),(3,1)],.A 4,.S 4,.F 0 0,.F 1 1,.F 3 3,.F 2 2]),(147,[.Z 2 [.string ⟨#[]⟩,.slice none 0 0],.Pl [(0,1),(1,1)],.S 2,.F 0 0,.F 1 1,.Fn]),(148,[.Z 2 [.string ⟨#[]⟩,.slice none 0 0],.Pl [(0,1),(1,1)],.S 2,.F 0 0,.F 1 1,.Fn]),(149,[.Fn]),(150,[.Z 1 [.string ⟨#[]⟩],.Pl [(0,1)],.S 1,.F 0 0]),(151,[.Fn]),(152,[.Z 3 [.string ⟨#[]⟩,.int .i64 0,.int .i64 0],.Pl [(0,1),(1,1),(2,1)],.S 3,.F 0 0,.F 2 2,.F 1 1]),(154,[.Z 1 [.nilIface],.Pl [(0,1)],.S 1,.F 0 0]),(156,[.Z 1 [.slice none 0 0],.Pl [(0,1)],.S 1,.F 0 0]),(157,[.Z 1 [.slice none 0 0],.Pl [(0,1)],.S 1,.F 0 0]),(159,[.Z 0 [],.Pl [],.S 0]),(161,[.Z 7 [.slice none 0 0,.slice none 0 0,.slice none 0 0,.bool false,.bool false,.bool false,.int .i64 0],.Pl [(0,1),(1,1),(2,1),(3,1),(4,1),(5,1),(6,1)],.S 7,.F 0 0,.F 6 6,.F 3 3,.F 1 1,.F 5 5,.F 2 2,.F 4 4]),(163,[.Fn,.C]),(164,[.Fn]),(165,[.Z 5 [.slice none 0 0,.map none,.map none,.map none,.nilFunc],.Pl [(0,1),(1,1),(2,2),(4,1)],.S 5,.F 0 0,.F 1 1,.F 3 4,.F 2 2,.Fn]),(166,[.Fn]),(167,[.Z 1 [.map none],.S 1,.C]),(169,[.El 98 4 32,.Sn,.Sl 4]),(183,[.Fn]),(184,[.Fn]),(185,[.A 6,.Z 6 [.string ⟨#[]⟩,.string ⟨#[]⟩,.int .i64 0,.int .i64 0,.string ⟨#[]⟩,.int .i64 0],.S 6,.F 1 1,.F 0 0,.F 2 2,.F 3 3,.F 4 4,.F 5 5,.Fn]),(187,[.Fn]),(189,[.Fn]),(190,[.Fn]),(197,[.Z 3 [.int .i64 0,.int .i64 0,.slice none 0 0],.Pl [(0,1),(1,1),(2,1)],.S 3,.F 0 0,.F 1 1,.F 2 2,.A 3]),(207,[.Z 4 [.bool false,.bool false,.bool false,.int .i64 0],.Pl [(0,1),(1,1),(2,1),(3,1)],.S 4,.F 0 0,.F 1 1,.F 2 2,.F 3 3]),(208,[.Z 36 [.bool false,.bool false,.bool false,.int .i64 0,.bool false,.bool false,.bool false,.int .i64 0,.bool false,.bool false,.bool false,.int .i64 0,.bool false,.bool false,.bool false,.int .i64 0,.bool false,.bool false,.bool false,.int .i64 0,.bool false,.bool false,.bool false,.int .i64 0,.bool false,.bool false,.bool false,.int .i64 0,.bool false,.bool false,.bool false,.int .i64 0,.bool false,.bool false,.bool false,.int .i64 0],.S 36,.A 36]),(214,[.Z 20 [.string ⟨#[]⟩,.string ⟨#[]⟩,.string ⟨#[]⟩,.string ⟨#[]⟩,.string ⟨#[]⟩,.string ⟨#[]⟩,.string ⟨#[]⟩,.string ⟨#[]⟩,.string ⟨#[]⟩,.string ⟨#[]⟩,.string ⟨#[]⟩,.string ⟨#[]⟩,.string ⟨#[]⟩,.string ⟨#[]⟩,.string ⟨#[]⟩,.string ⟨#[]⟩,.string ⟨#[]⟩,.string ⟨#[]⟩,.string ⟨#[]⟩,.string ⟨#[]⟩],.S 20,.Arr 20 1,.Fn]),(221,[.Fn]),(222,[.Fn]),(223,[.Fn]),(234,[.Fn]),(238,[.Fn]),(247,[.Fn]),(284,[.Fn]),(287,[.Fn])]
theorem ok:dm Tryz.prog tt:=P6 (by kernel_rfl) (by kernel_rfl) trivial
instance {N:Nat} {w:World} {m:bZ} {o:Nat->Prop} {p:Nat} {l:Nat->Option (Option (Nat×pI))} {g:Gl} {h:gT g m} {q:Option Nat}:TC ⟨Tryz.prog,N,w,m,o,p,l,g,h,q⟩ tt:=⟨ok⟩
end Go.Proofs.YtelmfadihfcgnaaGreatDoor
