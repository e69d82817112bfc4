/- Part of the proof: YS, D6T. -/
import Derived.Test.YtelmfadihfcgnaaGreatDoorEYH
import Derived.Test.YtelmfadihfcgnaaGreatDoorEDD
import Derived.Shelf.SlIter.Sorted
import Derived.Test.YtelmfadihfcgnaaGreatDoorEPvW
import Derived.Test.YtelmfadihfcgnaaGreatDoorEWA
import Derived.Test.YtelmfadihfcgnaaGreatDoorEDN
import Derived.Test.YtelmfadihfcgnaaGreatDoorProg
import Derived.KernelRfl
set_option linter.unusedSimpArgs false
set_option linter.unusedVariables false
namespace Go.Pv
open Go Go.RowKit Go.Maps Go.Sort Go.Proofs
def xJ{τ:Type}(xs:List (B8×τ)):Option (List B8):=
 if xs.length*16<=140737488355328/\(∀p,p∈xs->p.1.length<=140737488355328) then some (eQ (xs.map (·.1))) else none
def nA(v:Value):Option (DataW Unit×List MemPlace):=some (.lit (.bool true),[])
theorem Fs{P:Program}{m:bF}{w:World}{k:TypeId}{xs:List B8}{es:List (Value×V)}{v:Value}(hk:P.underlying k=some .string)(himm:∀(b:Nat) o,m b=some o->w.heap[b]? = some o)(he:es.map (·.1)=xs.map str)
  (hn:xs.length<=maxLen) (hl:∀x,x∈xs->x.length<=maxLen) (h:bX m (.imap es) v):
  ∃b D,v=.map (some b)/\b<w.heap.size/\w.ownsMap P k nA b xs.length D/\(strKeys D).Perm xs/\Maps.size D=xs.length:=by
 cases h with
 | @imap es b ents clock hm hln hkk h=>
 obtain⟨E,h1,h2,h3⟩:=hm
 have hkeys:ents.toList.map (·.key)=xs.map str:=by
  rw[<-he];apply ar8;intro i;rw[ay9,ay9];cases hi:es[i]? with
  |none=>
   grind
  |some p=>
   grind
 have hsz:E.size=xs.length:=by
  have a1:=h2.length_eq;have a2:=congrArg List.length hkeys;simp at a1 a2;omega
 have hread:∀e∈E.toList,∃x,x∈xs/\e.key=str x:=by
  intro e hE;have:e∈ents.toList:=h2.mem_iff.2 hE;have:e.key∈ents.toList.map (·.key):=bk8 this;rw[hkeys] at this;obtain⟨x,hx,e2⟩:=bb8.1 this;exact⟨x,hx,e2.symm⟩
 have hrd:∀e∈E.toList,∀x,x.length<=maxLen->e.key=str x->WideElems.rd P k nA e=some (.string x,.lit (.bool true)):=by
  intro e _ x hx hex
  have:keyOf P k e.key=some (.string x):=by
   rw[hex];unfold keyOf;rw[hk];simp only[mapKey,hk];simp[ByteArray.size,hx]
  unfold WideElems.rd;rw[this];rfl
 refine⟨b,.map ((E.toList.map (WideElems.rg P k nA)).foldr DataW.insert []),rfl,bW (himm _ _ h1),⟨E,clock,himm _ _ h1,⟨by omega,⟨fun x hx=>h3.lt x hx,h3.born,h3.key⟩,fun x hx=>?_⟩,by omega,rfl⟩,?_,?_⟩
 ·grind
 ·have p1:=Go.WideShapes.sorted_perm (E.toList.map (WideElems.rg P k nA));have p2:(strKeys (DataW.map ((E.toList.map (WideElems.rg P k nA)).foldr DataW.insert []))).Perm ((E.toList.map (WideElems.rg P k nA)).map fun p=>strOf p.1):=p1.map _;refine p2.trans ?_;rw[bc9];have p3:(E.toList.map ((fun p=>strOf p.1) ∘ WideElems.rg P k nA)).Perm (ents.toList.map ((fun p=>strOf p.1) ∘ WideElems.rg P k nA)):=(h2.symm).map _;refine p3.trans (List.Perm.of_eq ?_);apply ar8;intro i;have hk2:=congrArg (fun l=>l[i]?) hkeys;simp only[ay9] at hk2 ⊢;cases hi:xs[i]? with
  |none=>grind
  |some x=>
   rw[hi] at hk2;cases hx:ents.toList[i]? with
   |none=>grind
   |some e=>
    rw[hx] at hk2;simp only[az9,av8] at hk2 ⊢;have hmem:e∈E.toList:=h2.mem_iff.1 (aw8 hx);have:=hrd e hmem x (hl x (aw8 hi)) hk2
    simp_all[WideElems.rg,strOf]
 ·rw[size_eq];rw[(Go.WideShapes.sorted_perm _).length_eq,bf9]
  grind
section
variable{K:de}{Q:cp}{S:St}
variable{ops:Array Oper}{rest:List Oper}{ty ty2:TypeId}{pos pos2:String}{after after2:Array Edge}{g g2:Option (Nat×Bool)}
theorem qJ{ρ6 ρ7 ρ10:Go.Shelf.Ren}(L6:Go.Proofs.SlLaysZ.n6 K.P ρ6)(L7:Go.Proofs.SlLaysZ.n7 K.P ρ7)(L10:Go.Proofs.SlLaysZ.n10 K.P ρ10){f6 f7 f10 f9:Nat}{d1 d2:Nat}{x:Operand}{at1 at2:Array TypeId}{es:List (Value×V)}(xs:List B8)
  (e6:ρ6.f 6=f6) (e9:ρ6.f 9=f9) (e7:ρ7.f 7=f7) (e10:ρ7.f 10=f10) (e10':ρ10.f 10=f10) (et:ρ10.t 26=ρ6.t 26)
  (hs1:∀(blk off cap:Nat) (zs:List B8) (w:World),Holds str w blk off zs.toArray->blk<w.heap.size->zs.length<4611686018427387904->Calls K.P f9 #[.slice (some ⟨blk,off,none⟩) zs.length cap] w fun e w'=>
   e=.returned (.tuple #[])/\∃n os,w'=grow (putRow str (Sort.ahead w n) blk off (zs.mergeSort fun x y=>decide (x<=y)).toArray) os)
  (hs2:∀(p:Option Addr) (cap:Nat) (w:World),Calls K.P f9 #[.slice p 0 cap] w fun e w'=>e=.returned (.tuple #[])/\w'=w)
  (ef7:cI K.P f7=true) (ef6:cI K.P f6=true) (ef9:∀args w,(callFunc f9 args).run K.P w=.ok (.enter f9 args) w)
  (hc:xs.length*16<=140737488355328/\∀x,x∈xs->x.length<=140737488355328) (he:es.map (·.1)=xs.map str)
  (hw1:aN ops S ⟨some d1,.call ⟨.value (.func f7),#[x],at1⟩,ty,pos,after,g⟩ true) (hw2:aN ops (S.put d1 .any) ⟨some d2,.call ⟨.value (.func f6),#[.tmp d1],at2⟩,ty2,pos2,after2,g2⟩ true)
  (hx:ca K S x=.imap es) (hN1:Nat.blt d1 K.N=true) (hN2:Nat.blt d2 K.N=true)
  (kk:az K ops rest Q ((S.put d1 .any).put d2 (.lst 1 ((eQ xs).map fun s=>[sV s])))):
  az K ops (⟨some d1,.call ⟨.value (.func f7),#[x],at1⟩,ty,pos,after,g⟩::⟨some d2,.call ⟨.value (.func f6),#[.tmp d1],at2⟩,ty2,pos2,after2,g2⟩::rest) Q S:=by
 subst e6 e9 e7 e10;have hml:(140737488355328:Nat)<=maxLen:=by unfold maxLen;decide
 intro m β w a r;unfold wpListIn;rw[if_pos (hw1.at r)];obtain⟨vs,h1,h2⟩:=s6 (d:=some d1) (at':=at1) (ty:=ty) (pos:=pos) (after:=after) (g:=g) ef7 (args:=#[x]) (avs:=[.imap es]) (by simp[hx]) (.cons (ar.imap _) .nil) m β w a r
 have hvs:∃v,vs=#[v]/\bX m (.imap es) v:=by
  have hl:=h2.len;obtain⟨l⟩:=vs
  match l,hl with
  |[v],_=>exact⟨v,rfl,h2.at' 0 _ _ rfl rfl⟩
 obtain⟨v,rfl,hv⟩:=hvs;obtain⟨b,D,rfl,hb,hown,hperm,hsize⟩:=Fs L10.t26 r.imm he (bs8 (by omega) hml) (fun y hy=>bs8 (hc.2 y hy) hml) hv;refine ni (.inr (kc h1 (fun d e=>by cases e))) ?_;unfold Oper.wp;rw[h1];refine(callsIn_wide.1 (AnyZ.keys_in L7 Fence.wide 1 trivial Y (some b) w)).mono ?_
 rintro e w1 ⟨rfl,rfl⟩
 simp only[]
 have g1:ui m m w (w.alloc (.cells #[.map (some b)] (ρ7.t 23))):=⟨bF.le_refl _,fun c o h=>by
   have hh:=r.imm c o h;have:=bW hh
   show((w.heap.push _))[c]? = _
   grind,fun _ _=>rfl,fun c hc=>by
   show((w.heap.push _))[c]? = _
   grind,by simp,⟨rfl,rfl,rfl,trivial⟩⟩
 have r1:=(r.grow g1).put hN1 (dv:=.any) (v:=.func (.func (ρ7.f 10)) #[] #[.pointer (some ⟨w.heap.size,0,none⟩)]) (.imm (.any _))
 show wpListIn _ _ _ _ _ _ _ _
 unfold wpListIn;rw[if_pos (hw2.at r1)]
 have hev:(a.put (some d1) (.func (.func (ρ7.f 10)) #[] #[.pointer (some ⟨w.heap.size,0,none⟩)])).eval (.tmp d1)=.func (.func (ρ7.f 10)) #[] #[.pointer (some ⟨w.heap.size,0,none⟩)]:=by
  have hlt:d1<a.tmps.size:=by rw[r.tn];exact aw9 hN1
  simp[Act.put,Act.eval,hlt]
 have h3:(execOp (a.put (some d1) (.func (.func (ρ7.f 10)) #[] #[.pointer (some ⟨w.heap.size,0,none⟩)])).eval ⟨some d2,.call ⟨.value (.func (ρ6.f 6)),#[.tmp d1],at2⟩,ty2,pos2,after2,g2⟩).run K.P (w.alloc (.cells #[.map (some b)] (ρ7.t 23)))=.ok (.enter (ρ6.f 6) #[.func (.func (ρ7.f 10)) #[] #[.pointer (some ⟨w.heap.size,0,none⟩)]]) (w.alloc (.cells #[.map (some b)] (ρ7.t 23))):=by
  have hef:(a.put (some d1) (.func (.func (ρ7.f 10)) #[] #[.pointer (some ⟨w.heap.size,0,none⟩)])).eval (.func (ρ6.f 6))=.func (.func (ρ6.f 6)) #[] #[]:=rfl;simp only[execOp,resolve,bh8,bi9,ao8,hev,hef,Deferred.ofValue,invoke,Sem.run_bind,pure,Sem.run,Result.andThen_ok];simp[fp ef6]
 refine ni (.inr (kc h3 (fun d e=>by cases e))) ?_;unfold Oper.wp;rw[h3];have e10f:∀args w,(callFunc (ρ7.f 10) args).run K.P w=.ok (.enter (ρ7.f 10) args) w:=fun args w=>by rw[<-e10'];exact L10.f10.enters Y args w
 have hown1:(w.alloc (.cells #[.map (some b)] (ρ7.t 23))).ownsMap K.P (ρ10.t 26) nA b xs.length D:=by
  obtain⟨es',clock,q1,q2⟩:=hown;exact⟨es',clock,by rw[<-q1];exact g1.heap b hb,q2⟩
 have hbx:(w.alloc (.cells #[.map (some b)] (ρ7.t 23))).heap[w.heap.size]? = some (.cells #[.map (some b)] (ρ7.t 23)):=by
  show(w.heap.push _)[_]? = _
  simp
 have hcb:(w.alloc (.cells #[.map (some b)] (ρ7.t 23))).cell? ⟨w.heap.size,0,none⟩=some (.map (some b)):=by
  simp only[World.cell?,hbx];rfl
 have hg:=AnyZ.keys_gives L10 Fence.wide 1 trivial rfl (ae8 _) w.heap.size b xs.length D (R:=nA) (w.alloc (.cells #[.map (some b)] (ρ7.t 23))) (by simp) hcb hown1;rw[e10'] at hg;refine(callsIn_wide.1 (AnyZ.sorted_in L6 Fence.wide 4 trivial trivial trivial trivial Y (ae8 _) ⟨fun blk off cap ss W q1 q2 q3=>callsIn_wide.2 (hs1 blk off cap ss W q1 q2 q3),fun p cap W=>callsIn_wide.2 (hs2 p cap W)⟩ ef9 (ρ7.f 10) _ trivial e10f _ (Maps.size D) (by grind) (by grind) _ hg)).mono ?_
 rintro e w2 ⟨v2,ss,rfl,hss,hrow,hnil,hbel⟩
 have hts:ss.mergeSort (fun x y=>decide (x<=y))=eQ xs:=mergeSort_of_perm (hss.trans hperm);rw[hts] at hrow;have hsl:ss.length=xs.length:=by rw[(hss.trans hperm).length_eq]
 have htl:(eQ xs).length=xs.length:=List.length_mergeSort _;simp only[];rcases hrow.2 with ⟨rfl,hz⟩|⟨gb,cap,cur,rfl,hbase,hgb,q1,q2,q3,q4⟩
 ·have hx0:xs=[]:=ax9.1 (by omega);subst hx0;refine kk m β w2 _ ((r1.grow (sI r1.imm hbel trivial)).put hN2 (.imm ?_))
  show bX m (.lst 1 ((eQ []).map _)) _
  rw[show eQ []=[] from ax9.1 htl];exact .nil _ _ _
 ·let m':bF:=fun c=>if c=gb then some (.cells cur (ρ6.t 26) (0,0)) else m c
  have hnone:m gb=none:=by
   cases hm:m gb with
   |none=>rfl
   |some o=>have:=bW (r1.imm _ _ hm);omega
  have hle:m.le m':=by
   intro c o h;have:c≠gb:=by intro e;rw[e,hnone] at h;cases h
   show(if _ then _ else _)=_
   rw[if_neg this];exact h
  have gr:ui m m' (w.alloc (.cells #[.map (some b)] (ρ7.t 23))) w2:=by
   refine⟨hle,fun c o h=>?_,fun c hc=>?_,hbel.block,hbel.size,⟨hbel.os,hbel.tape,hbel.output,trivial⟩⟩
   ·by_cases ec:c=gb
    ·grind
    ·have:m' c=m c:=by show(if _ then _ else _)=_;grind
     rw[this] at h;rw[hbel.block c (bW (r1.imm c o h))];exact r1.imm c o h
   ·grind
  refine kk m' β w2 _ ((r1.grow gr).put hN2 (.imm ?_))
  have hcur:∀(i:Nat) (y:B8),(eQ xs)[i]? = some y->cur[i]? = some (str y):=by
   intro i y hy;have h5:=congrArg (fun l=>l[i]?) q4;simp only[Nat.mul_one,ay9,hy,az9,be9] at h5;split at h5
   ·grind
   ·cases h5
  refine .lst (arr:=cur) (T:=ρ6.t 26) (fr:=(0,0)) (fun i=>(cur[i]?).getD undef) (show(if _ then _ else _)=_ by grind) Y (by grind) q1 (bs8 q1 q2) ?_ ?_ ?_
  ·grind
  ·grind
  ·intro i j row c hi hj;rw[ay9] at hi;cases hy:(eQ xs)[i]? with
   |none=>grind
   |some y=>
    rw[hy] at hi;simp only[az9,av8] at hi;subst hi;cases j with
    |succ j=>simp at hj
    |zero=>
     simp only[bk9,av8] at hj;subst hj;rw[Nat.mul_one,bd9,hcur i y hy];exact .con _
end
end Go.Pv
namespace Go.Pv
open Go Go.RowKit Go.Maps Go.Sort Go.Proofs
theorem zw{τ:Type}{xs:List (B8×τ)}{l:List B8}(h:xJ xs=some l):(xs.length*16<=140737488355328/\∀p,p∈xs->p.1.length<=140737488355328)/\l=eQ (xs.map (·.1)):=by
 grind [xJ]
section
variable{K:de}{Q:cp}{S:St}
variable{ops:Array Oper}{rest:List Oper}{ty ty2:TypeId}{pos pos2:String}{after after2:Array Edge}{g g2:Option (Nat×Bool)}
theorem wG{τ:Type}{enc:B8->List V}{E:B8×τ->Value×V}{xs:List (B8×τ)}{l:List B8}(hl:xJ xs=some l)(henc:∀s,enc s=[sV s])(hE:∀p,(E p).1=str p.1)
  {ρ6 ρ7 ρ10:Go.Shelf.Ren} (L6:Go.Proofs.SlLaysZ.n6 K.P ρ6) (L7:Go.Proofs.SlLaysZ.n7 K.P ρ7) (L10:Go.Proofs.SlLaysZ.n10 K.P ρ10) {f6 f7 f10 f9:Nat} {d1 d2:Nat} {x:Operand} {at1 at2:Array TypeId}
  (e6:ρ6.f 6=f6) (e9:ρ6.f 9=f9) (e7:ρ7.f 7=f7) (e10:ρ7.f 10=f10) (e10':ρ10.f 10=f10) (et:ρ10.t 26=ρ6.t 26)
  (hs1:∀(blk off cap:Nat) (zs:List B8) (w:World),Holds str w blk off zs.toArray->blk<w.heap.size->zs.length<4611686018427387904->Calls K.P f9 #[.slice (some ⟨blk,off,none⟩) zs.length cap] w fun e w'=>
   e=.returned (.tuple #[])/\∃n os,w'=grow (putRow str (Sort.ahead w n) blk off (zs.mergeSort fun x y=>decide (x<=y)).toArray) os)
  (hs2:∀(p:Option Addr) (cap:Nat) (w:World),Calls K.P f9 #[.slice p 0 cap] w fun e w'=>e=.returned (.tuple #[])/\w'=w)
  (ef7:cI K.P f7=true) (ef6:cI K.P f6=true) (ef9:cI K.P f9=true)
  (hw1:aN ops S ⟨some d1,.call ⟨.value (.func f7),#[x],at1⟩,ty,pos,after,g⟩ true) (hw2:aN ops (S.put d1 .any) ⟨some d2,.call ⟨.value (.func f6),#[.tmp d1],at2⟩,ty2,pos2,after2,g2⟩ true)
  (hx:ca K S x=.imap (xs.map E)) (hN1:Nat.blt d1 K.N=true) (hN2:Nat.blt d2 K.N=true)
  (kk:az K ops rest Q ⟨(d2,.lst 1 (l.map enc))::(d1,.any)::S.env,S.hp,S.nx⟩):
  az K ops (⟨some d1,.call ⟨.value (.func f7),#[x],at1⟩,ty,pos,after,g⟩::⟨some d2,.call ⟨.value (.func f6),#[.tmp d1],at2⟩,ty2,pos2,after2,g2⟩::rest) Q S:=by
 obtain⟨⟨h1,h2⟩,rfl⟩:=zw hl;refine qJ L6 L7 L10 (xs.map (·.1)) e6 e9 e7 e10 e10' et hs1 hs2 ef7 ef6 (fun args w=>fp ef9 args) ⟨by grind,fun y hy=>?_⟩ ?_ hw1 hw2 hx hN1 hN2 ?_
 ·grind
 ·simp_all
 ·have:enc=fun s=>[sV s]:=funext henc;rw[this] at kk;exact kk
end
end Go.Pv
namespace Go.Proofs.YtelmfadihfcgnaaGreatDoor
open Go Go.Pv
set_option maxRecDepth 100000
theorem mixed:Tryz.prog.follows .mixedOrders=true:=by kernel_rfl
structure aG where
 Kind:Int
 Name:B8
 Texts:(List B8)
 Op:Int
 N:Int
 Kids:(List aw)
structure ay where
 Name:B8
 About:B8
 When:aG
 Level:Int
structure cB where
 Rule:B8
 Subject:B8
 From:Int
 To:Int
 Owner:B8
 Level:Int
 deriving DecidableEq
structure aW where
 Rules:(List ay)
 Waivers:(List cB)
structure bN where
 name:Bool
 texts:Bool
 number:Bool
 kids:Int
 deriving DecidableEq
structure ae where
 is:(List B8)
 begins:(List B8)
 numbers:(List Int)
 asText:Bool
 asNo:Bool
 has:Bool
 weight:Int
 deriving DecidableEq
structure da where
 name:B8
 texts:(List B8)
 deriving DecidableEq
structure cx where
 name:B8
 texts:(List B8)
 deriving DecidableEq
structure cU where
 name:B8
 deriving DecidableEq
structure cw where
 name:B8
 op:Int
 n:Int
 deriving DecidableEq
structure cT where
 kid:KV
structure cW where
 kids:(List KV)
structure cV where
 kids:(List KV)
structure cK where
 deriving DecidableEq
structure aa where
 hasText:Bool
 hasNumber:Bool
 text:B8
 number:Int
 deriving DecidableEq
structure av where
 by_:(List (B8×aa))
 known:(Option (List (B8×Bool)))
 deriving DecidableEq
structure cR where
 Name:B8
 Value:B8
 deriving DecidableEq
structure bO where
 Name:B8
 N:Int
 deriving DecidableEq
structure iI where
 Kind:B8
 Subject:B8
 Texts:(List cR)
 Numbers:(List bO)
 deriving DecidableEq
structure ab where
 isText:Bool
 isNumber:Bool
 text:B8
 number:Int
 deriving DecidableEq
structure aD where
 t:aG
 names:(List B8)
 can:(List (List ab))
 settled:(List Bool)
 is:(List ab)
def aj(x:Int):List V:=[(iV x)]
theorem aR(x:Int):cC (aj x):=(.cons (ar.con _) .nil)
theorem gX(x:Int):(aj x).all dt=true:=rfl
instance:EI aj:=⟨aR,gX⟩
def eg(x:Bool):List V:=[(bV x)]
theorem dF(x:Bool):cC (eg x):=(.cons (ar.con _) .nil)
theorem Ey(x:Bool):(eg x).all dt=true:=rfl
instance:EI eg:=⟨dF,Ey⟩
def au(x:B8):List V:=[(sV x)]
theorem aQ(x:B8):cC (au x):=(.cons (ar.con _) .nil)
theorem gA(x:B8):(au x).all dt=true:=rfl
instance:EI au:=⟨aQ,gA⟩
def ah(x:aG):List V:=[(iV x.Kind),(sV x.Name),(V.lst 1 (x.Texts.map au)),(iV x.Op),(iV x.N),(V.lst 6 (x.Kids.map aw.row))]
theorem ce(x:aG):cC (ah x):=(.cons (ar.con _) (.cons (ar.con _) (.cons (ar.lst _ _) (.cons (ar.con _) (.cons (ar.con _) (.cons (ar.lst _ _) .nil))))))
theorem gW(x:aG):(ah x).all dt=true:=rfl
instance:EI ah:=⟨ce,gW⟩
@[simp] theorem HR(x:aG):(ah x).length=6:=rfl
def cP(x:cR):List V:=[(sV x.Name),(sV x.Value)]
theorem jk(x:cR):cC (cP x):=(.cons (ar.con _) (.cons (ar.con _) .nil))
theorem oH(x:cR):(cP x).all dt=true:=rfl
instance:EI cP:=⟨jk,oH⟩
@[simp] theorem HT(x:cR):(cP x).length=2:=rfl
def ct(x:bO):List V:=[(sV x.Name),(iV x.N)]
theorem gJ(x:bO):cC (ct x):=(.cons (ar.con _) (.cons (ar.con _) .nil))
theorem lF(x:bO):(ct x).all dt=true:=rfl
instance:EI ct:=⟨gJ,lF⟩
@[simp] theorem Fc(x:bO):(ct x).length=2:=rfl
def fK(x:iI):List V:=[(sV x.Kind),(sV x.Subject),(V.lst 2 (x.Texts.map cP)),(V.lst 2 (x.Numbers.map ct))]
theorem tR(x:iI):cC (fK x):=(.cons (ar.con _) (.cons (ar.con _) (.cons (ar.lst _ _) (.cons (ar.lst _ _) .nil))))
theorem vV(x:iI):(fK x).all dt=true:=rfl
instance:EI fK:=⟨tR,vV⟩
@[simp] theorem HU(x:iI):(fK x).length=4:=rfl
def aZ(x:ay):List V:=[(sV x.Name),(sV x.About),(iV x.When.Kind),(sV x.When.Name),(V.lst 1 (x.When.Texts.map au)),(iV x.When.Op),(iV x.When.N),(V.lst 6 (x.When.Kids.map aw.row)),(iV x.Level)]
theorem m9(x:ay):cC (aZ x):=(.cons (ar.con _) (.cons (ar.con _) (.cons (ar.con _) (.cons (ar.con _) (.cons (ar.lst _ _) (.cons (ar.con _) (.cons (ar.con _) (.cons (ar.lst _ _) (.cons (ar.con _) .nil)))))))))
theorem nL(x:ay):(aZ x).all dt=true:=rfl
instance:EI aZ:=⟨m9,nL⟩
@[simp] theorem zQ(x:ay):(aZ x).length=9:=rfl
def cO(x:cB):List V:=[(sV x.Rule),(sV x.Subject),(iV x.From),(iV x.To),(sV x.Owner),(iV x.Level)]
theorem kU(x:cB):cC (cO x):=(.cons (ar.con _) (.cons (ar.con _) (.cons (ar.con _) (.cons (ar.con _) (.cons (ar.con _) (.cons (ar.con _) .nil))))))
theorem sd(x:cB):(cO x).all dt=true:=rfl
instance:EI cO:=⟨kU,sd⟩
@[simp] theorem Fa(x:cB):(cO x).length=6:=rfl
def aP(x:aW):List V:=[(V.lst 9 (x.Rules.map aZ)),(V.lst 6 (x.Waivers.map cO))]
theorem kV(x:aW):cC (aP x):=(.cons (ar.lst _ _) (.cons (ar.lst _ _) .nil))
theorem se(x:aW):(aP x).all dt=true:=rfl
instance:EI aP:=⟨kV,se⟩
@[simp] theorem Fb(x:aW):(aP x).length=2:=rfl
theorem Nz{d:Nat}:na Tryz.prog (d+1) 4 1 false (fun l=>∃n,l=[.bool n]):=CB (show Tryz.prog.underlying 4=some (.bool) by kernel_rfl) (show rM Tryz.prog 4=true by kernel_rfl)
theorem Pc{d:Nat}:na Tryz.prog (d+1) 9 1 false (fun l=>∃n,l=[.string n]):=FJ (show Tryz.prog.underlying 9=some (.string) by kernel_rfl) (show rM Tryz.prog 9=true by kernel_rfl)
theorem Pd{d:Nat}:na Tryz.prog (d+1) 3 1 false (fun l=>∃n,l=[.int .i64 n]):=FK (show Tryz.prog.underlying 3=some (.int .i64) by kernel_rfl) (show rM Tryz.prog 3=true by kernel_rfl)
def oX(x:aa):List Value:=[.bool x.hasText]++([.bool x.hasNumber]++([str x.text]++([.int .i64 x.number]++[])))
theorem Fm(x y:aa)(h:oX x=oX y):x=y:=by
 obtain⟨h0,h⟩:=ag9 h rfl;obtain⟨h1,h⟩:=ag9 h rfl;obtain⟨h2,h⟩:=ag9 h rfl;obtain⟨h3,h⟩:=ag9 h rfl;obtain⟨a0,a1,a2,a3⟩:=x;obtain⟨b0,b1,b2,b3⟩:=y;obtain rfl:a0=b0:=yc _ _ (List.cons.inj h0).1;obtain rfl:a1=b1:=yc _ _ (List.cons.inj h1).1;obtain rfl:a2=b2:=ed _ _ (List.cons.inj h2).1;obtain rfl:a3=b3:=HX _ _ (List.cons.inj h3).1;rfl
def Bg(v:Value):Prop:=∃x:aa,v=.agg (oX x).toArray
theorem uU:∀a b:aa,(Value.agg (oX a).toArray)=.agg (oX b).toArray->a=b:=fun a b h=>Fm a b (by simpa using congrArg Array.toList (Value.agg.inj h))
theorem Ny {d:Nat}:na Tryz.prog (d+2) 98 4 true (fun l=>∃x:aa,l=oX x):=(yw (d:=d+1) (fs:=[(Field.mk "hasText" 4 0 false "" "provender/policy" 0),(Field.mk "hasNumber" 4 1 false "" "provender/policy" 1),(Field.mk "text" 9 2 false "" "provender/policy" 8),(Field.mk "number" 3 3 false "" "provender/policy" 24)]) (by kernel_rfl) (by kernel_rfl) (by kernel_rfl) (by kernel_rfl) (oU Nz (by simp) rfl (by simp) (oU Nz (by simp) rfl (by simp) (oU Pc (by simp) rfl (by simp) (oU Pd (by simp) rfl (by simp) H8))))).weaken (fun l ⟨x,hx⟩=>by subst hx;exact⟨_,_,rfl,⟨_,rfl⟩,⟨_,_,rfl,⟨_,rfl⟩,⟨_,_,rfl,⟨_,rfl⟩,⟨_,_,rfl,⟨_,rfl⟩,rfl⟩⟩⟩⟩)
theorem NA:na Tryz.prog 10000 98 4 true (fun l=>∃x:aa,l=oX x):=Ny (d:=9998)
def bn(p:B8×aa):Value×V:=(str p.1,(V.agg [(bV p.2.hasText),(bV p.2.hasNumber),(sV p.2.text),(iV p.2.number)]))
abbrev dO(v:aa):V:=(V.agg [(bV v.hasText),(bV v.hasNumber),(sV v.text),(iV v.number)])
theorem tW(xs:List (B8×aa))(k:B8)(v:aa):jr (str k) (dO v) (xs.map bn) ((co xs k v).map bn):=rW (kv:=fun k=>str k) (ev:=dO) ed xs k v
theorem tX(xs:List (B8×aa))(k:B8):qY (str k) (xs.map bn) ((fC xs k).map bn):=yx (kv:=fun k=>str k) (ev:=dO) ed xs k
theorem nq(xs:List (B8×aa))(k:B8):iO (str k) (xs.map bn) ((aY xs k).map dO):=lH (kv:=fun k=>str k) (ev:=dO) ed xs k
theorem bJ{xs:List (B8×aa)}:∀p,p∈xs.map bn->ar p.2:=by
 intro p hp;obtain⟨x,_,rfl⟩:=bb8.1 hp;exact(ar.agg (.cons (ar.con _) (.cons (ar.con _) (.cons (ar.con _) (.cons (ar.con _) .nil)))))
instance:EM bn:=⟨fun _=>(ar.agg (.cons (ar.con _) (.cons (ar.con _) (.cons (ar.con _) (.cons (ar.con _) .nil)))))⟩
theorem gq{xs:List (B8×aa)}:∀p,p∈xs.map bn->np p.1:=by
 intro p hp;obtain⟨x,_,rfl⟩:=bb8.1 hp;exact⟨_,Y⟩
def bc(p:B8×Bool):Value×V:=(str p.1,(bV p.2))
abbrev dJ(v:Bool):V:=(bV v)
theorem kr(xs:List (B8×Bool))(k:B8)(v:Bool):jr (str k) (dJ v) (xs.map bc) ((co xs k v).map bc):=rW (kv:=fun k=>str k) (ev:=dJ) ed xs k v
theorem wr(xs:List (B8×Bool))(k:B8):qY (str k) (xs.map bc) ((fC xs k).map bc):=yx (kv:=fun k=>str k) (ev:=dJ) ed xs k
theorem ku(xs:List (B8×Bool))(k:B8):iO (str k) (xs.map bc) ((aY xs k).map dJ):=lH (kv:=fun k=>str k) (ev:=dJ) ed xs k
theorem bP{xs:List (B8×Bool)}:∀p,p∈xs.map bc->ar p.2:=by
 intro p hp;obtain⟨x,_,rfl⟩:=bb8.1 hp;exact(ar.con _)
instance:EM bc:=⟨fun _=>(ar.con _)⟩
theorem dP{xs:List (B8×Bool)}:∀p,p∈xs.map bc->np p.1:=by
 intro p hp;obtain⟨x,_,rfl⟩:=bb8.1 hp;exact⟨_,Y⟩
def ak(x:av):List V:=[(V.imap (x.by_.map bn)),(nK bc x.known)]
theorem bD(x:av):cC (ak x):=(.cons (ar.imap _) (.cons (dm _) .nil))
theorem bp(x:av):(ak x).all dt=true:=by unfold ak;simp only[ag8,List.all_nil,Ew,ah9];rfl
instance:EI ak:=⟨bD,bp⟩
theorem aM(x:av):vX (ak x)=true:=by unfold ak;cases x.known<;>rfl
@[simp] theorem xi(x:av):(ak x).length=2:=rfl
def am(x:aa):List V:=[(bV x.hasText),(bV x.hasNumber),(sV x.text),(iV x.number)]
theorem bK(x:aa):cC (am x):=(.cons (ar.con _) (.cons (ar.con _) (.cons (ar.con _) (.cons (ar.con _) .nil))))
theorem gz(x:aa):(am x).all dt=true:=rfl
instance:EI am:=⟨bK,gz⟩
@[simp] theorem x2(x:aa):(am x).length=4:=rfl
def ac(x:ab):List V:=[(bV x.isText),(bV x.isNumber),(sV x.text),(iV x.number)]
theorem aC(x:ab):cC (ac x):=(.cons (ar.con _) (.cons (ar.con _) (.cons (ar.con _) (.cons (ar.con _) .nil))))
theorem dZ(x:ab):(ac x).all dt=true:=rfl
instance:EI ac:=⟨aC,dZ⟩
@[simp] theorem rl(x:ab):(ac x).length=4:=rfl
def bI(x:(List ab)):List V:=[V.lst 4 (x.map ac)]
theorem cG(x:(List ab)):cC (bI x):=(.cons (ar.lst _ _) .nil)
theorem qd(x:(List ab)):(bI x).all dt=true:=rfl
instance:EI bI:=⟨cG,qd⟩
def aI(x:aD):List V:=[(iV x.t.Kind),(sV x.t.Name),(V.lst 1 (x.t.Texts.map au)),(iV x.t.Op),(iV x.t.N),(V.lst 6 (x.t.Kids.map aw.row)),(V.lst 1 (x.names.map au)),(V.lst 1 (x.can.map bI)),(V.lst 1 (x.settled.map eg)),(V.lst 4 (x.is.map ac))]
theorem gC(x:aD):cC (aI x):=(.cons (ar.con _) (.cons (ar.con _) (.cons (ar.lst _ _) (.cons (ar.con _) (.cons (ar.con _) (.cons (ar.lst _ _) (.cons (ar.lst _ _) (.cons (ar.lst _ _) (.cons (ar.lst _ _) (.cons (ar.lst _ _) .nil))))))))))
theorem gH(x:aD):(aI x).all dt=true:=rfl
instance:EI aI:=⟨gC,gH⟩
@[simp] theorem qy(x:aD):(aI x).length=10:=rfl
def bQ(x:da):List V:=[(sV x.name),(V.lst 1 (x.texts.map au))]
theorem kh(x:da):cC (bQ x):=(.cons (ar.con _) (.cons (ar.lst _ _) .nil))
theorem ll(x:da):(bQ x).all dt=true:=rfl
instance:EI bQ:=⟨kh,ll⟩
@[simp] theorem xj(x:da):(bQ x).length=2:=rfl
def br(x:cx):List V:=[(sV x.name),(V.lst 1 (x.texts.map au))]
theorem iB(x:cx):cC (br x):=(.cons (ar.con _) (.cons (ar.lst _ _) .nil))
theorem iS(x:cx):(br x).all dt=true:=rfl
instance:EI br:=⟨iB,iS⟩
@[simp] theorem tM(x:cx):(br x).length=2:=rfl
def bR(x:cU):List V:=[(sV x.name)]
theorem jN(x:cU):cC (bR x):=(.cons (ar.con _) .nil)
theorem j7(x:cU):(bR x).all dt=true:=rfl
instance:EI bR:=⟨jN,j7⟩
@[simp] theorem wc(x:cU):(bR x).length=1:=rfl
def bq(x:cw):List V:=[(sV x.name),(iV x.op),(iV x.n)]
theorem iA(x:cw):cC (bq x):=(.cons (ar.con _) (.cons (ar.con _) (.cons (ar.con _) .nil)))
theorem iR(x:cw):(bq x).all dt=true:=rfl
instance:EI bq:=⟨iA,iR⟩
@[simp] theorem tL(x:cw):(bq x).length=3:=rfl
def cf(x:cT):List V:=[(V.ifc x.kid.t x.kid.d)]
theorem jM(x:cT):cC (cf x):=(.cons (ar.ifc _ _) .nil)
theorem j6(x:cT):(cf x).all dt=true:=rfl
instance:EI cf:=⟨jM,j6⟩
@[simp] theorem v8(x:cT):(cf x).length=1:=rfl
def bT(x:cW):List V:=[(V.lst 1 (x.kids.map KV.enc))]
theorem jP(x:cW):cC (bT x):=(.cons (ar.lst _ _) .nil)
theorem j9(x:cW):(bT x).all dt=true:=rfl
instance:EI bT:=⟨jP,j9⟩
@[simp] theorem we(x:cW):(bT x).length=1:=rfl
def bS(x:cV):List V:=[(V.lst 1 (x.kids.map KV.enc))]
theorem jO(x:cV):cC (bS x):=(.cons (ar.lst _ _) .nil)
theorem j8(x:cV):(bS x).all dt=true:=rfl
instance:EI bS:=⟨jO,j8⟩
@[simp] theorem wd(x:cV):(bS x).length=1:=rfl
def cm(x:cK):List V:=[]
theorem jj(x:cK):cC (cm x):=.nil
theorem jF(x:cK):(cm x).all dt=true:=rfl
instance:EI cm:=⟨jj,jF⟩
@[simp] theorem uO(x:cK):(cm x).length=0:=rfl
def bv(x:ae):List V:=[(V.lst 1 (x.is.map au)),(V.lst 1 (x.begins.map au)),(V.lst 1 (x.numbers.map aj)),(bV x.asText),(bV x.asNo),(bV x.has),(iV x.weight)]
theorem jL(x:ae):cC (bv x):=(.cons (ar.lst _ _) (.cons (ar.lst _ _) (.cons (ar.lst _ _) (.cons (ar.con _) (.cons (ar.con _) (.cons (ar.con _) (.cons (ar.con _) .nil)))))))
theorem j5(x:ae):(bv x).all dt=true:=rfl
instance:EI bv:=⟨jL,j5⟩
@[simp] theorem v7(x:ae):(bv x).length=7:=rfl
def cy(x:bN):List V:=[(bV x.name),(bV x.texts),(bV x.number),(iV x.kids)]
theorem lK(x:bN):cC (cy x):=(.cons (ar.con _) (.cons (ar.con _) (.cons (ar.con _) (.cons (ar.con _) .nil))))
theorem m6(x:bN):(cy x).all dt=true:=rfl
instance:EI cy:=⟨lK,m6⟩
@[simp] theorem zh(x:bN):(cy x).length=4:=rfl
def bB(x:ae):List V:=[(V.dsl 9 1 (x.is.map au)),(V.dsl 9 1 (x.begins.map au)),(V.dsl 3 1 (x.numbers.map aj)),(bV x.asText),(bV x.asNo),(bV x.has),(iV x.weight)]
theorem dE:N7 bB bv:=fun x=>(.cons (vw _ _ aQ _) (.cons (vw _ _ aQ _) (.cons (vw _ _ aR _) (.cons (q8 _) (.cons (q8 _) (.cons (q8 _) (.cons (q8 _) .nil)))))))
@[simp] theorem uP(x:ae):(bB x).length=7:=rfl
instance:EK bB:=⟨fun x c hc=>by
 obtain⟨j,hj⟩:=ba8 hc;have hl:=(bb9.1 hj).1;rw[(dE x).1] at hl;exact((dE x).2 j c _ hj (ax8 hl)).2⟩
def c5(p:B8×(Option ae)):Value×V:=(str p.1,(vS bv p.2))
abbrev jo(v:(Option ae)):V:=(vS bv v)
theorem sY(xs:List (B8×(Option ae)))(k:B8):iO (str k) (xs.map c5) ((aY xs k).map jo):=lH (kv:=fun k=>str k) (ev:=jo) ed xs k
instance:EM c5:=⟨fun _=>(Fq _)⟩
theorem sZ{xs:List (B8×(Option ae))}:∀p,p∈xs.map c5->np p.1:=by
 intro p hp;obtain⟨x,_,rfl⟩:=bb8.1 hp;exact⟨_,Y⟩
def aT(p:B8×(Option ae)):Value×V:=(str p.1,(qE 161 bB p.2))
theorem nt(p:B8×(Option ae)):(aT p).1=(c5 p).1/\ud (aT p).2 (c5 p).2/\dC (aT p).2:=⟨rfl,Dm 161 dE p.2,uR 161 p.2⟩
instance:ML aT:=⟨fun p=>(nt p).2.2⟩
theorem lT{xs:List (B8×(Option ae))}:∀p,p∈xs.map aT->np p.1:=by
 intro p hp;obtain⟨x,_,rfl⟩:=bb8.1 hp;exact⟨_,Y⟩
def bz(p:aa×Bool):Value×V:=(.agg (oX p.1).toArray,(bV p.2))
abbrev fL(v:Bool):V:=(bV v)
theorem tY(xs:List (aa×Bool))(k:aa)(v:Bool):jr (.agg (oX k).toArray) (fL v) (xs.map bz) ((co xs k v).map bz):=rW (kv:=fun k=>.agg (oX k).toArray) (ev:=fL) uU xs k v
theorem tZ(xs:List (aa×Bool))(k:aa):iO (.agg (oX k).toArray) (xs.map bz) ((aY xs k).map fL):=lH (kv:=fun k=>.agg (oX k).toArray) (ev:=fL) uU xs k
theorem cA{xs:List (aa×Bool)}:∀p,p∈xs.map bz->ar p.2:=by
 intro p hp;obtain⟨x,_,rfl⟩:=bb8.1 hp;exact(ar.con _)
instance:EM bz:=⟨fun _=>(ar.con _)⟩
theorem nu{xs:List (aa×Bool)}:∀p,p∈xs.map bz->(Bg) p.1:=by
 intro p hp;obtain⟨x,_,rfl⟩:=bb8.1 hp;exact⟨_,Y⟩
def cz(p:B8×(List aa)):Value×V:=(str p.1,(V.lst 4 (p.2.map am)))
abbrev jm(v:(List aa)):V:=(V.lst 4 (v.map am))
theorem sW(xs:List (B8×(List aa)))(k:B8):iO (str k) (xs.map cz) ((aY xs k).map jm):=lH (kv:=fun k=>str k) (ev:=jm) ed xs k
instance:EM cz:=⟨fun _=>(ar.lst _ _)⟩
theorem sX{xs:List (B8×(List aa))}:∀p,p∈xs.map cz->np p.1:=by
 intro p hp;obtain⟨x,_,rfl⟩:=bb8.1 hp;exact⟨_,Y⟩
def ba(p:B8×(List aa)):Value×V:=(str p.1,(V.dsl 98 4 (p.2.map am)))
theorem nr(p:B8×(List aa)):(ba p).1=(cz p).1/\ud (ba p).2 (cz p).2/\dC (ba p).2:=⟨rfl,xr bK _,dC.dsl _ _ _⟩
instance:ML ba:=⟨fun p=>(nr p).2.2⟩
theorem sU{xs:List (B8×(List aa))}:∀p,p∈xs.map ba->np p.1:=by
 intro p hp;obtain⟨x,_,rfl⟩:=bb8.1 hp;exact⟨_,Y⟩
theorem MU:lu Tryz.prog 46 9=true:=by kernel_rfl
theorem tC9:rM Tryz.prog 9=true:=by kernel_rfl
theorem AM:jy Tryz.prog 9=true:=by kernel_rfl
theorem nI:eH Tryz.prog 92 9 4=true:=by kernel_rfl
theorem eR:jV Tryz.prog 9 np:=sB (by kernel_rfl)
theorem Hp:(Tryz.prog.info? 4).bind (·.zero)=some (.bool false):=by kernel_rfl
theorem vM:cF Tryz.prog 23=true:=by kernel_rfl
theorem BX:zeroCells Tryz.prog 25=some [.int .i64 0,.string ⟨#[]⟩,.slice none 0 0,.int .i64 0,.int .i64 0,.slice none 0 0]:=by kernel_rfl
theorem MQ:zeroCells Tryz.prog 208=some [.bool false,.bool false,.bool false,.int .i64 0,.bool false,.bool false,.bool false,.int .i64 0,.bool false,.bool false,.bool false,.int .i64 0,.bool false,.bool false,.bool false,.int .i64 0,.bool false,.bool false,.bool false,.int .i64 0,.bool false,.bool false,.bool false,.int .i64 0,.bool false,.bool false,.bool false,.int .i64 0,.bool false,.bool false,.bool false,.int .i64 0,.bool false,.bool false,.bool false,.int .i64 0]:=by kernel_rfl
theorem Jt:zeroCells Tryz.prog 207=some [.bool false,.bool false,.bool false,.int .i64 0]:=by kernel_rfl
theorem Ht:nc Tryz.prog 208 9 4=true:=by kernel_rfl
theorem D9:nG Tryz.prog 208 9 4 207=true:=by kernel_rfl
theorem iX:cF Tryz.prog 22=true:=by kernel_rfl
theorem DF:lu Tryz.prog 22 1=true:=by kernel_rfl
theorem La:cI Tryz.prog 150=true:=by kernel_rfl
theorem eS:eJ Tryz.prog 51 3 1 8=true:=by kernel_rfl
theorem xh:zeroCells Tryz.prog 3=some [.int .i64 0]:=by kernel_rfl
theorem vL:cF Tryz.prog 51=true:=by kernel_rfl
theorem MS:lu Tryz.prog 51 1=true:=by kernel_rfl
theorem D8:eJ Tryz.prog 109 75 1 16=true:=by kernel_rfl
theorem MO:zeroCells Tryz.prog 75=some [.nilIface]:=by kernel_rfl
theorem Kw:Program.concrete Tryz.prog 147=true:=by kernel_rfl
theorem Kv:Program.concrete Tryz.prog 148=true:=by kernel_rfl
theorem Ku:Program.concrete Tryz.prog 150=true:=by kernel_rfl
theorem Kt:Program.concrete Tryz.prog 152=true:=by kernel_rfl
theorem Km:lu Tryz.prog 109 1=true:=by kernel_rfl
theorem Ks:Program.concrete Tryz.prog 154=true:=by kernel_rfl
theorem Kr:Program.concrete Tryz.prog 156=true:=by kernel_rfl
theorem Kq:Program.concrete Tryz.prog 157=true:=by kernel_rfl
theorem Kp:Program.concrete Tryz.prog 159=true:=by kernel_rfl
theorem DX:pz Tryz.prog 147=true:=by kernel_rfl
theorem Bt:cI Tryz.prog 89=true:=by kernel_rfl
theorem tS4:Js Tryz.prog 4 1=true:=by kernel_rfl
theorem fS:eJ Tryz.prog 22 9 1 16=true:=by kernel_rfl
theorem Kk:(Tryz.prog.info? 147).bind (·.zero)=some (.agg #[.string ⟨#[]⟩,.slice none 0 0]):=by kernel_rfl
theorem DW:pz Tryz.prog 148=true:=by kernel_rfl
theorem Kj:(Tryz.prog.info? 148).bind (·.zero)=some (.agg #[.string ⟨#[]⟩,.slice none 0 0]):=by kernel_rfl
theorem DV:pz Tryz.prog 150=true:=by kernel_rfl
theorem Ki:(Tryz.prog.info? 150).bind (·.zero)=some (.agg #[.string ⟨#[]⟩]):=by kernel_rfl
theorem DL:pz Tryz.prog 152=true:=by kernel_rfl
theorem Kh:(Tryz.prog.info? 152).bind (·.zero)=some (.agg #[.string ⟨#[]⟩,.int .i64 0,.int .i64 0]):=by kernel_rfl
theorem DJ:pz Tryz.prog 154=true:=by kernel_rfl
theorem Kg:(Tryz.prog.info? 154).bind (·.zero)=some (.agg #[.nilIface]):=by kernel_rfl
theorem DI:pz Tryz.prog 156=true:=by kernel_rfl
theorem Kf:(Tryz.prog.info? 156).bind (·.zero)=some (.agg #[.slice none 0 0]):=by kernel_rfl
theorem DH:pz Tryz.prog 157=true:=by kernel_rfl
theorem Ke:(Tryz.prog.info? 157).bind (·.zero)=some (.agg #[.slice none 0 0]):=by kernel_rfl
theorem Bu:cI Tryz.prog 33=true:=by kernel_rfl
theorem Nr:cI Tryz.prog 56=true:=by kernel_rfl
theorem nJ:eH Tryz.prog 77 9 103=true:=by kernel_rfl
theorem Ns:cI Tryz.prog 48=true:=by kernel_rfl
theorem Nt:cI Tryz.prog 47=true:=by kernel_rfl
theorem FG:cI Tryz.prog 109=true:=by kernel_rfl
theorem G6:zeroCells Tryz.prog 9=some [.string ⟨#[]⟩]:=by kernel_rfl
theorem rQ:eH Tryz.prog 91 9 98=true:=by kernel_rfl
theorem DC:(Tryz.prog.info? 98).bind (·.zero)=some (.agg #[.bool false,.bool false,.string ⟨#[]⟩,.int .i64 0]):=by kernel_rfl
theorem Hq:zeroCells Tryz.prog 98=some [.bool false,.bool false,.string ⟨#[]⟩,.int .i64 0]:=by kernel_rfl
theorem Kl:(Tryz.prog.info? 103).bind (·.zero)=some (.pointer none):=by kernel_rfl
theorem AN:eH Tryz.prog 167 98 4=true:=by kernel_rfl
theorem D3:jV Tryz.prog 98 Bg:=Fh NA (by kernel_rfl) (fun v ⟨x,hx⟩=>⟨_,⟨x,rfl⟩,hx⟩)
theorem vC:eH Tryz.prog 163 9 169=true:=by kernel_rfl
theorem DE:(Tryz.prog.info? 169).bind (·.zero)=some (.slice none 0 0):=by kernel_rfl
theorem rR:eJ Tryz.prog 169 98 4 32=true:=by kernel_rfl
theorem D4:cF Tryz.prog 169=true:=by kernel_rfl
theorem JH:cI Tryz.prog 59=true:=by kernel_rfl
theorem K9:cI Tryz.prog 186=true:=by kernel_rfl
theorem Nv:cI Tryz.prog 29=true:=by kernel_rfl
theorem OY:Tryz.prog.underlying 21=some (.int .i32):=by kernel_rfl
theorem FF:cI Tryz.prog 237=true:=by kernel_rfl
theorem K8:cI Tryz.prog 188=true:=by kernel_rfl
theorem Nm:cI Tryz.prog 90=true:=by kernel_rfl
theorem Nu:cI Tryz.prog 35=true:=by kernel_rfl
theorem vN:AL Tryz.prog 94 2=true:=by kernel_rfl
theorem Kx:rM Tryz.prog 92=true:=by kernel_rfl
theorem AO:xx Tryz.prog 92=true:=by kernel_rfl
theorem wq:cI Tryz.prog 281=true:=by kernel_rfl
theorem vK:∀(v:Value) (args:Array Value) (w:World),(callMethod (.iface 147 v) "provender/policy.holds" args).run Tryz.prog w=.ok (.enter 282 (#[v]++args)) w:=fun v args w=>by kernel_rfl
theorem vJ:∀(v:Value) (args:Array Value) (w:World),(callMethod (.iface 148 v) "provender/policy.holds" args).run Tryz.prog w=.ok (.enter 283 (#[v]++args)) w:=fun v args w=>by kernel_rfl
theorem vI:∀(v:Value) (args:Array Value) (w:World),(callMethod (.iface 150 v) "provender/policy.holds" args).run Tryz.prog w=.ok (.enter 285 (#[v]++args)) w:=fun v args w=>by kernel_rfl
theorem vH:∀(v:Value) (args:Array Value) (w:World),(callMethod (.iface 152 v) "provender/policy.holds" args).run Tryz.prog w=.ok (.enter 286 (#[v]++args)) w:=fun v args w=>by kernel_rfl
theorem vG:∀(v:Value) (args:Array Value) (w:World),(callMethod (.iface 154 v) "provender/policy.holds" args).run Tryz.prog w=.ok (.enter 288 (#[v]++args)) w:=fun v args w=>by kernel_rfl
theorem vF:∀(v:Value) (args:Array Value) (w:World),(callMethod (.iface 156 v) "provender/policy.holds" args).run Tryz.prog w=.ok (.enter 289 (#[v]++args)) w:=fun v args w=>by kernel_rfl
theorem vE:∀(v:Value) (args:Array Value) (w:World),(callMethod (.iface 157 v) "provender/policy.holds" args).run Tryz.prog w=.ok (.enter 290 (#[v]++args)) w:=fun v args w=>by kernel_rfl
theorem vD:∀(v:Value) (args:Array Value) (w:World),(callMethod (.iface 159 v) "provender/policy.holds" args).run Tryz.prog w=.ok (.enter 291 (#[v]++args)) w:=fun v args w=>by kernel_rfl
theorem Np:cI Tryz.prog 58=true:=by kernel_rfl
theorem Nq:cI Tryz.prog 57=true:=by kernel_rfl
theorem JJ:cI Tryz.prog 36=true:=by kernel_rfl
theorem MP:zeroCells Tryz.prog 214=some [.string ⟨#[]⟩,.string ⟨#[]⟩,.string ⟨#[]⟩,.string ⟨#[]⟩,.string ⟨#[]⟩,.string ⟨#[]⟩,.string ⟨#[]⟩,.string ⟨#[]⟩,.string ⟨#[]⟩,.string ⟨#[]⟩,.string ⟨#[]⟩,.string ⟨#[]⟩,.string ⟨#[]⟩,.string ⟨#[]⟩,.string ⟨#[]⟩,.string ⟨#[]⟩,.string ⟨#[]⟩,.string ⟨#[]⟩,.string ⟨#[]⟩,.string ⟨#[]⟩]:=by kernel_rfl
theorem AP:nc Tryz.prog 214 20 1=true:=by kernel_rfl
theorem oA:eJ Tryz.prog 23 25 6 88=true:=by kernel_rfl
theorem No:cI Tryz.prog 66=true:=by kernel_rfl
theorem JI:cI Tryz.prog 51=true:=by kernel_rfl
theorem Bs:cI Tryz.prog 97=true:=by kernel_rfl
theorem OX:zeroCells Tryz.prog 29=some [.string ⟨#[]⟩,.string ⟨#[]⟩,.slice none 0 0,.slice none 0 0]:=by kernel_rfl
theorem lx:zeroCells Tryz.prog 142=some [.bool false,.bool false,.string ⟨#[]⟩,.int .i64 0]:=by kernel_rfl
theorem gG:eJ Tryz.prog 138 142 4 32=true:=by kernel_rfl
theorem Kn:eJ Tryz.prog 257 5 1 1=true:=by kernel_rfl
theorem tZ5:zeroCells Tryz.prog 5=some [.int .u8 0]:=by kernel_rfl
theorem Ky:q9 Tryz.prog 257=true:=by kernel_rfl
theorem D5:cF Tryz.prog 138=true:=by kernel_rfl
theorem Ld:cI Tryz.prog 124=true:=by kernel_rfl
theorem D7:eJ Tryz.prog 136 138 1 24=true:=by kernel_rfl
theorem MR:zeroCells Tryz.prog 138=some [.slice none 0 0]:=by kernel_rfl
theorem D6:cF Tryz.prog 136=true:=by kernel_rfl
theorem Ko:eJ Tryz.prog 137 4 1 1=true:=by kernel_rfl
theorem tZ4:zeroCells Tryz.prog 4=some [.bool false]:=by kernel_rfl
theorem Nn:cI Tryz.prog 82=true:=by kernel_rfl
theorem Lc:cI Tryz.prog 126=true:=by kernel_rfl
theorem Ju:Js Tryz.prog 142 4=true:=by kernel_rfl
theorem Lb:cI Tryz.prog 127=true:=by kernel_rfl
theorem JG:cI Tryz.prog 85=true:=by kernel_rfl
theorem OW:zeroCells Tryz.prog 39=some [.string ⟨#[]⟩,.string ⟨#[]⟩]:=by kernel_rfl
theorem Jw:eJ Tryz.prog 26 39 2 32=true:=by kernel_rfl
theorem Hs:cF Tryz.prog 26=true:=by kernel_rfl
theorem OV:zeroCells Tryz.prog 41=some [.string ⟨#[]⟩,.int .i64 0]:=by kernel_rfl
theorem Jv:eJ Tryz.prog 27 41 2 24=true:=by kernel_rfl
theorem Hr:cF Tryz.prog 27=true:=by kernel_rfl
theorem Nl:cI Tryz.prog 99=true:=by kernel_rfl
def tt:TT:=[(3,[.C,.S 1,.Z 1 [.int .i64 0]]),(4,[.C,.S 1]),(5,[.U]),(9,[.C,.Str,.Z 1 [.string ⟨#[]⟩],.S 1]),(11,[.Fn]),(18,[.Fn]),(21,[.I .i32,.Fn]),(22,[.C,.Sn,.Sl 1,.S 1,.El 9 1 16,.Fn]),(23,[.C,.Sn,.Sl 6,.El 25 6 88]),(25,[.A 6,.S 6,.F 5 5,.Z 6 [.int .i64 0,.string ⟨#[]⟩,.slice none 0 0,.int .i64 0,.int .i64 0,.slice none 0 0],.F 0 0,.F 1 1,.F 2 2,.F 3 3,.F 4 4,.Pl [(0,1),(1,1),(2,1),(3,1),(4,1),(5,1)]]),(26,[.C,.S 1]),(27,[.C,.S 1]),(29,[.Z 4 [.string ⟨#[]⟩,.string ⟨#[]⟩,.slice none 0 0,.slice none 0 0],.Pl [(0,1),(1,1),(2,1),(3,1)],.S 4,.A 4,.F 2 2,.F 3 3]),(30,[.Fn]),(31,[.Fn]),(32,[.Fn]),(34,[.Fn]),(38,[.Fn]),(39,[.Fn,.Z 2 [.string ⟨#[]⟩,.string ⟨#[]⟩],.Pl [(0,1),(1,1)]]),(40,[.Fn]),(41,[.Z 2 [.string ⟨#[]⟩,.int .i64 0],.Pl [(0,1),(1,1)],.Fn]),(46,[.C,.Sn,.Sl 9]),(47,[.C,.Sn,.Sl 6]),(49,[.S 2,.A 2,.F 0 0,.F 1 1]),(50,[.Fn]),(51,[.El 3 1 8,.Sn,.Sl 1,.C,.S 1,.Fn]),(54,[.Fn]),(55,[.Fn]),(58,[.A 9,.Z 9 [.string ⟨#[]⟩,.string ⟨#[]⟩,.int .i64 0,.string ⟨#[]⟩,.slice none 0 0,.int .i64 0,.int .i64 0,.slice none 0 0,.int .i64 0],.S 9,.F 0 0,.F 1 1,.F 2 2,.F 3 8]),(64,[.Fn]),(65,[.Fn]),(66,[.Fn]),(67,[.Fn]),(68,[.Fn]),(72,[.Fn]),(74,[.Fn]),(75,[.C]),(77,[.S 1,.C]),(79,[.Fn]),(80,[.Z 1 [.pointer none],.S 1,.C,.Fn]),(81,[.Fn]),(82,[.C]),(83,[.Fn]),(86,[.Fn]),(87,[.Fn]),(88,[.Fn]),(91,[.C]),(92,[.C,.Fn]),(93,[.Fn]),(94,[.Z 2 [.map none,.map none],.Pl [(0,1),(1,1)],.A 2,.F 0 0,.F 1 1,.Fn]),(95,[.Fn]),(96,[.Fn]),(98,[.Z 4 [.bool false,.bool false,.string ⟨#[]⟩,.int .i64 0],.S 4,.A 4,.Pl [(0,1),(1,1),(2,1),(3,1)],.F 0 0,.F 2 2,.F 1 1,.F 3 3,.Fn]),(105,[.Fn]),(106,[.Fn]),(109,[.El 75 1 16,.Sn,.Sl 1,.C,.Z 1 [.slice none 0 0],.S 1]),(111,[.Fn]),(112,[.Fn]),(113,[.Fn]),(119,[.Fn]),(120,[.Fn]),(121,[.Fn]),(124,[.Fn]),(125,[.Fn]),(126,[.Fn]),(128,[.Fn]),(129,[.Fn]),(130,[.Fn]),(131,[.Fn]),(132,[.Fn]),(134,[.Fn]),(136,[.C,.S 1,.Sl 1]),(137,[.S 1,.C,.Sl 1]),(138,[.Fn,.El 142 4 32,.Sn,.S 1,.C,.Sl 4]),(140,[.Z 10 [.int .i64 0,.string ⟨#[]⟩,.slice none 0 0,.int .i64 0,.int .i64 0,.slice none 0 0,.slice none 0 0,.slice none 0 0,.slice none 0 0,.slice none 0 0],.Pl [(0,6),(6,1),(7,1),(8,1),(9,1)],.S 10,.F 1 6,.F 2 7,.F 3 8,.F 4 9,.F 0 0]),(142,[.Z 4 [.bool false,.bool false,.string ⟨#[]⟩,.int .i64 0],.Pl [(0,1),(1,1),(2,1),(3,1)],.A 4,.S 4,.F 0 0,.F 1 1,.F 3 3,.F 2 2]),(147,[.Z 2 [.string ⟨#[]⟩,.slice none 0 0],.Pl [(0,1),(1,1)],.S 2,.F 0 0,.F 1 1,.Fn]),(148,[.Z 2 [.string ⟨#[]⟩,.slice none 0 0],.Pl [(0,1),(1,1)],.S 2,.F 0 0,.F 1 1,.Fn]),(149,[.Fn]),(150,[.Z 1 [.string ⟨#[]⟩],.Pl [(0,1)],.S 1,.F 0 0]),(151,[.Fn]),(152,[.Z 3 [.string ⟨#[]⟩,.int .i64 0,.int .i64 0],.Pl [(0,1),(1,1),(2,1)],.S 3,.F 0 0,.F 2 2,.F 1 1]),(154,[.Z 1 [.nilIface],.Pl [(0,1)],.S 1,.F 0 0]),(156,[.Z 1 [.slice none 0 0],.Pl [(0,1)],.S 1,.F 0 0]),(157,[.Z 1 [.slice none 0 0],.Pl [(0,1)],.S 1,.F 0 0]),(159,[.Z 0 [],.Pl [],.S 0]),(161,[.Z 7 [.slice none 0 0,.slice none 0 0,.slice none 0 0,.bool false,.bool false,.bool false,.int .i64 0],.Pl [(0,1),(1,1),(2,1),(3,1),(4,1),(5,1),(6,1)],.S 7,.F 0 0,.F 6 6,.F 3 3,.F 1 1,.F 5 5,.F 2 2,.F 4 4]),(163,[.Fn,.C]),(165,[.Z 5 [.slice none 0 0,.map none,.map none,.map none,.nilFunc],.Pl [(0,1),(1,1),(2,2),(4,1)],.S 5,.F 0 0,.F 1 1,.F 3 4,.F 2 2]),(166,[.Fn]),(167,[.Z 1 [.map none],.S 1,.C]),(169,[.El 98 4 32,.Sn,.Sl 4]),(183,[.Fn]),(184,[.Fn]),(185,[.A 6,.Z 6 [.string ⟨#[]⟩,.string ⟨#[]⟩,.int .i64 0,.int .i64 0,.string ⟨#[]⟩,.int .i64 0],.S 6,.F 1 1,.F 0 0,.F 2 2,.F 3 3,.F 4 4,.F 5 5,.Fn]),(187,[.Fn]),(189,[.Fn]),(190,[.Fn]),(207,[.Z 4 [.bool false,.bool false,.bool false,.int .i64 0],.Pl [(0,1),(1,1),(2,1),(3,1)],.S 4,.F 0 0,.F 1 1,.F 2 2,.F 3 3]),(208,[.Z 36 [.bool false,.bool false,.bool false,.int .i64 0,.bool false,.bool false,.bool false,.int .i64 0,.bool false,.bool false,.bool false,.int .i64 0,.bool false,.bool false,.bool false,.int .i64 0,.bool false,.bool false,.bool false,.int .i64 0,.bool false,.bool false,.bool false,.int .i64 0,.bool false,.bool false,.bool false,.int .i64 0,.bool false,.bool false,.bool false,.int .i64 0,.bool false,.bool false,.bool false,.int .i64 0],.S 36,.A 36]),(214,[.Z 20 [.string ⟨#[]⟩,.string ⟨#[]⟩,.string ⟨#[]⟩,.string ⟨#[]⟩,.string ⟨#[]⟩,.string ⟨#[]⟩,.string ⟨#[]⟩,.string ⟨#[]⟩,.string ⟨#[]⟩,.string ⟨#[]⟩,.string ⟨#[]⟩,.string ⟨#[]⟩,.string ⟨#[]⟩,.string ⟨#[]⟩,.string ⟨#[]⟩,.string ⟨#[]⟩,.string ⟨#[]⟩,.string ⟨#[]⟩,.string ⟨#[]⟩,.string ⟨#[]⟩],.S 20,.Arr 20 1]),(221,[.Fn]),(222,[.Fn]),(223,[.Fn]),(238,[.Fn]),(247,[.Fn]),(284,[.Fn]),(287,[.Fn])]
theorem ok:cQ Tryz.prog tt:=MN (by kernel_rfl) (by kernel_rfl) trivial
instance {N:Nat} {w:World} {m:bF} {o:Nat->Prop} {p:Nat} {l:Nat->Option (Option (Nat×ow))} {g:Gl} {h:gk g m} {q:Option Nat}:TC ⟨Tryz.prog,N,w,m,o,p,l,g,h,q⟩ tt:=⟨ok⟩
end Go.Proofs.YtelmfadihfcgnaaGreatDoor
