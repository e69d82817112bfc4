/- Part of the proof. -/
import Derived.Test.YtppfkkkifdbnaaaGreatDoorVZA
set_option linter.unusedSimpArgs false
set_option linter.unusedVariables false
namespace Go.Pv
open Go
inductive It where
 |c (x:Code)
 |b (id:Nat)
 |o (ops:Array Oper) (l:List Oper)
 |j (J:St->Prop)
def post(K:Ctx)(Q:Post):List It->Post
 |[]=>Q
 | .c x::s=>thenQ K x (post K Q s)
 | .b id::s=>blockQ id (post K Q s)
 | .o ops l::s=>fun e S=>match e with | .normal=>AOps K ops l (post K Q s) S|e=>post K Q s e S
 | .j J::s=>fun e S=>match e with | .normal=>J S|e=>post K Q s e S
def WG(K:Ctx)(Q:Post)(s:List It)(S:St):Prop:=post K Q s .normal S
section
variable{K:Ctx}{Q:Post}{S S':St}{s s':List It}
theorem post_ret:∀{s:List It},Q .ret S->post K Q s .ret S
 |[],h=>h
 | .c _::s,h=>post_ret (s:=s) h
 | .b _::s,h=>post_ret (s:=s) h
 | .o _ _::s,h=>post_ret (s:=s) h
 | .j _::s,h=>post_ret (s:=s) h
def unw(i:Nat):List It->Option (List It)
 |[]=>none
 | .b k::s=>bif Nat.beq i k then some s else unw i s
 | .c _::s=>unw i s
 | .o _ _::s=>unw i s
 | .j _::s=>unw i s
theorem unw_ok{i:Nat}:∀{s s':List It},unw i s=some s'->WG K Q s' S->post K Q s (.exit i) S
 |[],_,h,_=>by simp[unw] at h
 | .b k::s,s',h,q=>by
  simp only[unw] at h
  show post K Q (.b k::s) (.exit i) S
  simp only[post,blockQ]
  cases hb:Nat.beq i k with
  |true=>
   rw[hb] at h;simp only[cond_true,aq8] at h;subst h
   rw[if_pos (bw8 hb)];exact q
  |false=>
   simp_all[Nat.ne_of_beq_eq_false,unw_ok]
 | .c x::s,s',h,q=>unw_ok (s:=s) (by grind [unw]) q
 | .o _ _::s,s',h,q=>unw_ok (s:=s) (by grind [unw]) q
 | .j _::s,s',h,q=>unw_ok (s:=s) (by grind [unw]) q
def tyFC(P:Program)(T f:Nat):Bool:=
 match P.underlying T with|some (.struct fs)=>(match fs[f]? with|some fl=>tyC P fl.type|none=>false)|_=>false
def tyB(P:Program)(T:Nat):Bool:=match P.underlying T with|some .bool=>true|_=>false
def tyI(P:Program)(T:Nat)(k:IntKind):Bool:=match P.underlying T with|some (.int k')=>decide (k'=k)|_=>false
def tyU(P:Program)(T:Nat):Bool:=match P.underlying T with|some _=>true|_=>false
def lenIs{α:Type}:Nat->List α->Bool
 |0,[]=>true
 |n+1,_::l=>lenIs n l
 |_,_=>false
theorem lenIs_ok{α:Type}:∀{n:Nat} {l:List α},lenIs n l=true->l.length=n
 |0,[],_=>rfl
 |n+1,_::l,h=>by rw[bl8,lenIs_ok (n:=n) (l:=l) h]
 |0,_::_,h=>by simp[lenIs] at h
 |n+1,[],h=>by simp[lenIs] at h
inductive TF where
 |A (n:Nat)
 |C
 |F (f off:Nat)
 |FC (f:Nat)
 |S (n:Nat)
 |Sl (k:Nat)
 |Sn
 |Str
 |Z (n:Nat) (zs:List Value)
 |Pl (ps:List (Nat×Nat))
 |Arr (len s:Nat)
 |El (e k bytes:Nat)
 |B
 |I (k:IntKind)
 |U
 |Fn
 |AA (n k e:Nat)
 |AC (n e:Nat)
 |Cn
 |M (name:String) (f:Nat)
 |Mn
 |R (n:Nat)
def tyMp(P:Program)(T:Nat):Bool:=match P.underlying T with|some (.map _ _)=>true|_=>false
def TF.ok(P:Program)(T:Nat):TF->Prop
 | .A n=>tyA P T n=true
 | .C=>tyC P T=true
 | .F f off=>tyF P T f off=true
 | .FC f=>tyFC P T f=true
 | .S n=>tyS P T n=true
 | .Sl k=>tySl P T k=true
 | .Sn=>tySlice P T=true
 | .Str=>tyStr P T=true
 | .Z n zs=>zeroCells P T=some zs/\(lenIs n zs&&zs.all (·.oneCell'))=true
 | .Pl ps=>tyPlaces P T=some ps
 | .Arr len s=>tyArr P T len s=true
 | .El e k bytes=>tyEl P T e k bytes=true
 | .B=>tyB P T=true
 | .I k=>tyI P T k=true
 | .U=>tyU P T=true
 | .Fn=>fnOk P T=true
 | .AA n k e=>tyArrA P T n k e=true
 | .AC n e=>tyArrC P T n e=true
 | .Cn=>P.concrete T=true
 | .M name f=>(∀(v:Value) (args:Array Value) (w:World),(callMethod (.iface T v) name args).run P w=.ok (.enter f (#[v]++args)) w)/\∀(v:Value) (w:World),(nilAhead (P.types.size+Made.depth) T v name).run P w=.ok (some false) w
 | .Mn=>tyMp P T=true
 | .R _=>True
abbrev TT:=List (Nat×List TF)
def TTok(P:Program)(t:TT):Prop:=∀p,p∈t->∀f,f∈p.2->TF.ok P p.1 f
class TC (K:Ctx) (t:outParam TT):Prop where
 h:TTok K.P t
def TF.okB(P:Program)(T:Nat):TF->Bool
 | .A n=>tyA P T n
 | .C=>tyC P T
 | .F f off=>tyF P T f off
 | .FC f=>tyFC P T f
 | .S n=>tyS P T n
 | .Sl k=>tySl P T k
 | .Sn=>tySlice P T
 | .Str=>tyStr P T
 | .Z n zs=>lenIs n zs&&zs.all (·.oneCell')
 | .Pl ps=>decide (tyPlaces P T=some ps)
 | .Arr len s=>tyArr P T len s
 | .El e k bytes=>tyEl P T e k bytes
 | .B=>tyB P T
 | .I k=>tyI P T k
 | .U=>tyU P T
 | .Fn=>fnOk P T
 | .AA n k e=>tyArrA P T n k e
 | .AC n e=>tyArrC P T n e
 | .Cn=>P.concrete T
 | .M _ _=>true
 | .Mn=>tyMp P T
 | .R _=>true
def zP(P:Program)(t:TT):List (Option (List Value)×Option (List Value)):=t.flatMap fun p=>p.2.filterMap fun f=>match f with | .Z _ zs=>some (zeroCells P p.1,some zs)|_=>none
def mP(t:TT):List (Nat×TF):=t.flatMap fun p=>p.2.filterMap fun f=>match f with | .M s n=>some (p.1,.M s n)|_=>none
def mOk(P:Program):List (Nat×TF)->Prop
 |[]=>True
 |p::l=>TF.ok P p.1 p.2/\mOk P l
theorem mOk_all{P:Program}:∀{l:List (Nat×TF)},mOk P l->∀p,p∈l->TF.ok P p.1 p.2
 |_::_,h,p,hp=>(am8.1 hp).elim (fun e=>e ▸ h.1) (mOk_all h.2 p)
theorem eq_all{α:Type}:∀{l:List (α×α)},l.map (·.1)=l.map (·.2)->∀p,p∈l->p.1=p.2
 |a::l,h,p,hp=>by
  simp only[bd8,List.cons.injEq] at h
  exact(am8.1 hp).elim (fun e=>e ▸ h.1) (eq_all h.2 p)
theorem tt_b{P:Program}{t:TT}(hB:(t.all fun p=>p.2.all (TF.okB P p.1))=true)(hZ:(zP P t).map (·.1)=(zP P t).map (·.2))(hM:mOk P (mP t)):TTok P t:=fun p hp f hf=>by
 have h:=al8.1 (al8.1 hB p hp) f hf
 cases f with
 |Z n zs=>exact⟨eq_all hZ (zeroCells P p.1,some zs) (List.mem_flatMap.2 ⟨p,hp,List.mem_filterMap.2 ⟨_,hf,rfl⟩⟩),h⟩
 |M s n=>exact mOk_all hM (p.1,.M s n) (List.mem_flatMap.2 ⟨p,hp,List.mem_filterMap.2 ⟨_,hf,rfl⟩⟩)
 |Pl ps=>exact of_decide_eq_true (p:=tyPlaces P p.1=some ps) h
 |R n=>trivial
 |_=>exact h
def lk{α:Type}:List (Nat×α)->Nat->Option α
 |[],_=>none
 |(k,v)::l,t=>bif Nat.beq k t then some v else lk l t
theorem lk_mem{α:Type}:∀{l:List (Nat×α)} {t:Nat} {v:α},lk l t=some v->(t,v)∈l
 |(k,v')::l,t,v,h=>by
  simp only[lk] at h
  cases hb:Nat.beq k t with
  |true=>rw[hb] at h;simp at h;subst h;rw[bw8 hb];exact bs9
  |false=>rw[hb] at h;simp at h;exact bm8 _ (lk_mem h)
def fnd{α:Type}(p:TF->Option α):List TF->Option α
 |[]=>none
 |f::l=>match p f with|some a=>some a|none=>fnd p l
theorem fnd_mem{α:Type}{p:TF->Option α}:∀{l:List TF} {a:α},fnd p l=some a->∃f,f∈l/\p f=some a
 |f::l,a,h=>by
  simp only[fnd] at h
  split at h
  ·rename_i b hb;simp at h;subst h;exact⟨f,bs9,hb⟩
  ·obtain⟨f',h1,h2⟩:=fnd_mem h;exact⟨f',bm8 _ h1,h2⟩
def ask{α:Type}(t:TT)(T:Nat)(p:TF->Option α):Option α:=match lk t T with|some l=>fnd p l|none=>none
theorem ask_ok{P:Program}{α:Type}{t:TT}(ht:TTok P t){T:Nat}{p:TF->Option α}{a:α}(h:ask t T p=some a):∃f,p f=some a/\TF.ok P T f:=by
 unfold ask at h
 split at h
 ·rename_i l hl
  obtain⟨f,h1,h2⟩:=fnd_mem h
  exact⟨f,h2,ht _ (lk_mem hl) _ h1⟩
 grind
def TF.qA:TF->Option Nat | .A n=>some n|_=>none
def TF.qC:TF->Option Unit | .C=>some ()|_=>none
def TF.qF(f:Nat):TF->Option Nat | .F f' off=>bif Nat.beq f' f then some off else none|_=>none
def TF.qFC(f:Nat):TF->Option Unit | .FC f'=>bif Nat.beq f' f then some () else none|_=>none
def TF.qS:TF->Option Nat | .S n=>some n|_=>none
def TF.qSl:TF->Option Nat | .Sl n=>some n|_=>none
def TF.qSn:TF->Option Unit | .Sn=>some ()|_=>none
def TF.qStr:TF->Option Unit | .Str=>some ()|_=>none
def TF.qZ:TF->Option (Nat×List Value) | .Z n zs=>some (n,zs)|_=>none
def TF.qPl:TF->Option (List (Nat×Nat)) | .Pl ps=>some ps|_=>none
def TF.qArr:TF->Option (Nat×Nat) | .Arr l s=>some (l,s)|_=>none
def TF.qEl:TF->Option (Nat×Nat×Nat) | .El e k b=>some (e,k,b)|_=>none
def TF.qB:TF->Option Unit | .B=>some ()|_=>none
def TF.qI:TF->Option IntKind | .I k=>some k|_=>none
def TF.qU:TF->Option Unit | .U=>some ()|_=>none
def TF.qAA:TF->Option (Nat×Nat×Nat) | .AA n k e=>some (n,k,e)|_=>none
def TF.qAC:TF->Option (Nat×Nat) | .AC n e=>some (n,e)|_=>none
def TF.qFn:TF->Option Unit | .Fn=>some ()|_=>none
def TF.qCn:TF->Option Unit | .Cn=>some ()|_=>none
def TF.qM(name:String):TF->Option Nat | .M nm f=>(match decide (nm=name) with|true=>some f|false=>none)|_=>none
def TF.qR:TF->Option Nat | .R n=>some n|_=>none
def TF.qMn:TF->Option Unit | .Mn=>some ()|_=>none
section
variable{P:Program}{t:TT}{T:Nat}
theorem askA(ht:TTok P t){n:Nat}(h:ask t T TF.qA=some n):tyA P T n=true:=by
 obtain⟨f,h1,h2⟩:=ask_ok ht h;cases f<;>simp[TF.qA] at h1;subst h1;exact h2
theorem askC(ht:TTok P t){n:Unit}(h:ask t T TF.qC=some n):tyC P T=true:=by
 obtain⟨f,h1,h2⟩:=ask_ok ht h;cases f<;>simp[TF.qC] at h1;exact h2
theorem askF(ht:TTok P t){n f:Nat}(h:ask t T (TF.qF f)=some n):tyF P T f n=true:=by
 obtain⟨f',h1,h2⟩:=ask_ok ht h
 cases f'<;>simp_all[TF.qF]
 rename_i g off
 cases hb:Nat.beq g f with
 |true=>rw[hb] at h1;simp at h1;subst h1;rw[<-bw8 hb];exact h2
 |false=>grind
theorem askFC(ht:TTok P t){n:Unit}{f:Nat}(h:ask t T (TF.qFC f)=some n):tyFC P T f=true:=by
 obtain⟨f',h1,h2⟩:=ask_ok ht h
 cases f'<;>simp_all[TF.qFC]
 rename_i g
 cases hb:Nat.beq g f with
 |true=>rw[<-bw8 hb];exact h2
 |false=>grind
theorem askS(ht:TTok P t){n:Nat}(h:ask t T TF.qS=some n):tyS P T n=true:=by
 obtain⟨f,h1,h2⟩:=ask_ok ht h;cases f<;>simp[TF.qS] at h1;subst h1;exact h2
theorem askSl(ht:TTok P t){n:Nat}(h:ask t T TF.qSl=some n):tySl P T n=true:=by
 obtain⟨f,h1,h2⟩:=ask_ok ht h;cases f<;>simp[TF.qSl] at h1;subst h1;exact h2
theorem askSn(ht:TTok P t){n:Unit}(h:ask t T TF.qSn=some n):tySlice P T=true:=by
 obtain⟨f,h1,h2⟩:=ask_ok ht h;cases f<;>simp[TF.qSn] at h1;exact h2
theorem askStr(ht:TTok P t){n:Unit}(h:ask t T TF.qStr=some n):tyStr P T=true:=by
 obtain⟨f,h1,h2⟩:=ask_ok ht h;cases f<;>simp[TF.qStr] at h1;exact h2
theorem askZ(ht:TTok P t){n:Nat}{zs:List Value}(h:ask t T TF.qZ=some (n,zs)):zeroCells P T=some zs/\zs.length=n/\zs.all (·.oneCell')=true:=by
 obtain⟨f,h1,h2⟩:=ask_ok ht h
 cases f<;>simp[TF.qZ] at h1
 obtain⟨rfl,rfl⟩:=h1
 obtain⟨h3,h4⟩:=h2
 simp only[al9] at h4
 grind [lenIs_ok]
theorem askPl(ht:TTok P t){n:List (Nat×Nat)}(h:ask t T TF.qPl=some n):tyPlaces P T=some n:=by
 obtain⟨f,h1,h2⟩:=ask_ok ht h;cases f<;>simp[TF.qPl] at h1;subst h1;exact h2
theorem askArr(ht:TTok P t){l k:Nat}(h:ask t T TF.qArr=some (l,k)):tyArr P T l k=true:=by
 obtain⟨f,h1,h2⟩:=ask_ok ht h;cases f<;>simp[TF.qArr] at h1;obtain⟨rfl,rfl⟩:=h1;exact h2
theorem askEl(ht:TTok P t){e k b:Nat}(h:ask t T TF.qEl=some (e,k,b)):tyEl P T e k b=true:=by
 obtain⟨f,h1,h2⟩:=ask_ok ht h;cases f<;>simp[TF.qEl] at h1;obtain⟨rfl,rfl,rfl⟩:=h1;exact h2
theorem askAA(ht:TTok P t){n k e:Nat}(h:ask t T TF.qAA=some (n,k,e)):tyArrA P T n k e=true:=by
 obtain⟨f,h1,h2⟩:=ask_ok ht h;cases f<;>simp[TF.qAA] at h1;obtain⟨rfl,rfl,rfl⟩:=h1;exact h2
theorem askAC(ht:TTok P t){n e:Nat}(h:ask t T TF.qAC=some (n,e)):tyArrC P T n e=true:=by
 obtain⟨f,h1,h2⟩:=ask_ok ht h;cases f<;>simp[TF.qAC] at h1;obtain⟨rfl,rfl⟩:=h1;exact h2
theorem askFn(ht:TTok P t){n:Unit}(h:ask t T TF.qFn=some n):fnOk P T=true:=by
 obtain⟨f,h1,h2⟩:=ask_ok ht h;cases f<;>simp[TF.qFn] at h1;exact h2
theorem askCn(ht:TTok P t){n:Unit}(h:ask t T TF.qCn=some n):P.concrete T=true:=by
 obtain⟨f,h1,h2⟩:=ask_ok ht h;cases f<;>simp[TF.qCn] at h1;exact h2
theorem askMn(ht:TTok P t){n:Unit}(h:ask t T TF.qMn=some n):tyMp P T=true:=by
 obtain⟨f,h1,h2⟩:=ask_ok ht h;cases f<;>simp[TF.qMn] at h1;exact h2
theorem askM(ht:TTok P t){name:String}{n:Nat}(h:ask t T (TF.qM name)=some n):(∀(v:Value) (args:Array Value) (w:World),(callMethod (.iface T v) name args).run P w=.ok (.enter n (#[v]++args)) w)/\∀(v:Value) (w:World),(nilAhead (P.types.size+Made.depth) T v name).run P w=.ok (some false) w:=by
 obtain⟨f,h1,h2⟩:=ask_ok ht h
 cases f<;>simp_all[TF.qM]
 split at h1
 ·rename_i hd
  simp only[aq8] at h1
  subst h1
  rw[<-of_decide_eq_true hd];exact h2
 grind
theorem askB(ht:TTok P t){n:Unit}(h:ask t T TF.qB=some n):P.underlying T=some .bool:=by
 obtain⟨f,h1,h2⟩:=ask_ok ht h
 cases f<;>simp[TF.qB] at h1
 have h3:tyB P T=true:=h2
 grind [tyB]
theorem askI(ht:TTok P t){k:IntKind}(h:ask t T TF.qI=some k):P.underlying T=some (.int k):=by
 obtain⟨f,h1,h2⟩:=ask_ok ht h
 cases f<;>simp[TF.qI] at h1
 subst h1
 have h3:tyI P T _=true:=h2
 grind [tyI]
theorem askU(ht:TTok P t){n:Unit}(h:ask t T TF.qU=some n):∃d,P.underlying T=some d:=by
 obtain⟨f,h1,h2⟩:=ask_ok ht h
 cases f<;>simp[TF.qU] at h1
 have h3:tyU P T=true:=h2
 grind [tyU]
end
def gtC:Env->Nat->Option V
 |[],_=>none
 |(k,v)::e,t=>bif Nat.beq k t then some v else gtC e t
def hgC:Heap->Nat->Option Ob
 |[],_=>none
 |(k,v)::e,t=>bif Nat.beq k t then some v else hgC e t
def Ag(e:Env)(S:St):Prop:=∀t v,gtC e t=some v->get S.env t=v
def AgH(hp:Heap)(S:St):Prop:=∀t v,hgC hp t=some v->hget S.hp t=v
theorem gtC_ok:∀{e:Env} {t:Nat} {v:V},gtC e t=some v->get e t=v
 |[],t,v,h=>by simp[gtC] at h
 |(k,x)::e,t,v,h=>by
  simp only[gtC] at h
  simp only[get]
  cases hb:Nat.beq k t with
  |true=>rw[hb] at h;simpa using h
  |false=>rw[hb] at h;simp at h;simpa using gtC_ok h
theorem hgC_ok:∀{e:Heap} {t:Nat} {v:Ob},hgC e t=some v->hget e t=v
 |[],t,v,h=>by simp[hgC] at h
 |(k,x)::e,t,v,h=>by
  simp only[hgC] at h
  simp only[hget]
  cases hb:Nat.beq k t with
  |true=>rw[hb] at h;simpa using h
  |false=>rw[hb] at h;simp at h;simpa using hgC_ok h
theorem agE:Ag S.env S:=fun _ _ h=>gtC_ok h
theorem agH:AgH S.hp S:=fun _ _ h=>hgC_ok h
def evC(e:Env):Operand->Option V
 | .tmp t=>gtC e t
 | .const v=>some (.con v)
 | .func f=>some (.fn (.func f) [] [])
 | .global _=>none
theorem evC_ok{e:Env}(ha:Ag e S){x:Operand}{v:V}(h:evC e x=some v):evl K S x=v:=by
 cases x with
 |tmp t=>exact ha _ _ h
 |const v=>grind [evC,evl]
 |func f=>grind [evC,evl]
 |global g=>simp[evC] at h
def evL(e:Env):List Operand->Option (List V)
 |[]=>some []
 |x::l=>match evC e x with|some v=>(match evL e l with|some r=>some (v::r)|none=>none)|none=>none
theorem evL_ok{e:Env}(ha:Ag e S):∀{l:List Operand} {vs:List V},evL e l=some vs->l.map (evl K S)=vs
 |[],vs,h=>by grind [evL]
 |x::l,vs,h=>by
  simp only[evL] at h
  split at h
  ·rename_i v hv
   split at h
   ·rename_i r hr;simp at h;subst h;simp[evC_ok ha hv,evL_ok ha hr]
   ·simp at h
  ·simp at h
def evP(e:Env):List (Nat×Operand)->Option (List (Nat×V))
 |[]=>some []
 |(i,x)::l=>match evC e x with|some v=>(match evP e l with|some r=>some ((i,v)::r)|none=>none)|none=>none
theorem evP_ok{e:Env}(ha:Ag e S):∀{l:List (Nat×Operand)} {vs:List (Nat×V)},evP e l=some vs->l.map (fun p=>(p.1,evl K S p.2))=vs
 |[],vs,h=>by grind [evP]
 |(i,x)::l,vs,h=>by
  simp only[evP] at h
  split at h
  ·rename_i v hv
   split at h
   ·rename_i r hr;simp at h;subst h;simp[evC_ok ha hv,evP_ok ha hr]
   grind
  grind
def frc{α:Type}:List α->Option (List α)
 |[]=>some []
 |x::l=>match frc l with|some r=>some (x::r)|none=>none
theorem frc_ok{α:Type}:∀{l r:List α},frc l=some r->l=r
 |[],r,h=>by simpa[frc] using h
 |x::l,r,h=>by
  simp only[frc] at h
  split at h
  ·rename_i q hq;simp at h;subst h;rw[frc_ok hq]
  ·simp at h
def lgt{α:Type}:List α->Nat->Option α
 |[],_=>none
 |x::l,n=>match n with|0=>some x|n+1=>lgt l n
theorem lgt_ok{α:Type}:∀{l:List α} {n:Nat} {x:α},lgt l n=some x->l[n]? = some x
 |x::l,0,y,h=>by simpa[lgt] using h
 |x::l,n+1,y,h=>by simpa[lgt] using lgt_ok (l:=l) (n:=n) (by simpa[lgt] using h)
 |[],_,y,h=>by simp[lgt] at h
def drC{α:Type}:Nat->List α->Option (List α)
 |0,l=>some l
 |n+1,l=>match l with|_::l=>drC n l|[]=>none
def tkC{α:Type}:Nat->List α->Option (List α)
 |0,_=>some []
 |n+1,l=>match l with|x::l=>(match tkC n l with|some r=>some (x::r)|none=>none)|[]=>none
theorem drC_ok{α:Type}:∀{n:Nat} {l r:List α},drC n l=some r->l.drop n=r
 |0,l,r,h=>by simpa[drC] using h
 |n+1,x::l,r,h=>by simpa using drC_ok (n:=n) (l:=l) (by simpa[drC] using h)
 |n+1,[],r,h=>by simp[drC] at h
theorem tkC_ok{α:Type}:∀{n:Nat} {l r:List α},tkC n l=some r->l.take n=r/\r.length=n
 |0,l,r,h=>by simp_all[tkC]
 |n+1,x::l,r,h=>by
  simp only[tkC] at h
  split at h
  ·rename_i q hq;simp at h;subst h
   obtain⟨h1,h2⟩:=tkC_ok hq
   simp[h1,h2]
  ·simp at h
 |n+1,[],r,h=>by simp[tkC] at h
def cut(row:List V)(o n:Nat):Option (List V):=
 bif Nat.beq o 0&&lenIs n row then some row else match drC o row with|some r=>tkC n r|none=>none
theorem cut_ok{row cs:List V}{o n:Nat}(h:cut row o n=some cs):(row.drop o).take n=cs/\cs.length=n:=by
 unfold cut at h
 cases hb:Nat.beq o 0&&lenIs n row with
 |true=>
  rw[hb] at h;simp at h;subst h
  simp only[al9] at hb
  grind [Nat.eq_of_beq_eq_true,lenIs_ok]
 |false=>
  rw[hb] at h;simp only[cond_false] at h
  grind [drC_ok,tkC_ok]
def vcC:V->Option (List V)
 | .agg cs=>some cs
 | .con v=>some [.con v]
 | .lst k r=>some [.lst k r]
 | .iptr r o=>some [.iptr r o]
 | .imap e=>some [.imap e]
 | .fn f a b=>some [.fn f a b]
 | .ptr a b c d=>some [.ptr a b c d]
 | .own a b=>some [.own a b]
 | .map a=>some [.map a]
 |_=>none
theorem vcC_ok{v:V}{cs:List V}(h:vcC v=some cs):vcells v=cs:=by
 cases v<;>simp[vcC] at h<;>simp[vcells,h]
def allB:List V->Bool
 |[]=>true
 |x::l=>bif oneV x then allB l else false
theorem allB_ok:∀{l:List V},allB l=true->l.all oneV=true
 |[],_=>rfl
 |x::l,h=>by
  simp only[allB] at h
  cases hb:oneV x with
  |true=>rw[hb] at h;simp[hb,allB_ok (by simpa using h)]
  |false=>rw[hb] at h;simp at h
def strL(b:ByteArray):List UInt8:=b.data.toList
theorem str_strL(b:ByteArray):str (strL b)=.string b:=by simp_all[strL]
def bin(t:TT)(op:BinOp)(T:Nat):V->V->Option V
 | .con x,.con y=>
  match x,y with
  | .int k a,.int k' b=>(match binS op (.int k a) (.int k' b) with|some v=>some (.con v)|none=>none)
  | .string a,.string b=>(match op with | .add=>none|op=>(match binT op (strL a) (strL b) with|some v=>some (.con v)|none=>none))
  | .bool a,.bool b=>(match ask t T TF.qB with
   |some _=>(match op with | .eql=>some (.con (.bool (a==b))) | .neq=>some (.con (.bool (a != b)))|_=>none)
   |none=>none)
  | .slice none 0 0,.slice none 0 0=>(match ask t T TF.qSn with
   |some _=>(match op with | .eql=>some (.con (.bool true)) | .neq=>some (.con (.bool false))|_=>none)
   |none=>none)
  |_,_=>none
 |_,_=>none
def ldV(t:TT)(T:Nat)(row:List V)(o:Nat):Option V:=
 match ask t T TF.qA with
 |some n=>(match cut row o n with|some cs=>(match ndB cs with|true=>some (.agg cs)|false=>none)|none=>none)
 |none=>match ask t T TF.qC with|some _=>(match lgt row o with|some c=>(match c.deep with|false=>some c|true=>none)|none=>none)|none=>none
def ap1(b:Builtin)(t:TT)(T:Nat):V->Option V
 | .con x=>
  match x with
  | .string s=>(match b with | .len=>(match ask t T TF.qStr with|some _=>some (.con (.int .i64 (strL s).length))|none=>none)|_=>none)
  | .slice _ n _=>(match b with | .len=>(match ask t T TF.qSn with|some _=>some (.con (.int .i64 n))|none=>none)|_=>none)
  |_=>none
 | .own _ n=>(match b with | .len=>(match ask t T TF.qSn with|some _=>some (.con (.int .i64 n))|none=>none)|_=>none)
 |_=>none
def ap2(b:Builtin):V->V->Option V
 | .con x,.con y=>
  match x,y with
  | .int k n,.int k' n'=>(match decide (k=k') with
   |true=>(match b with | .min=>some (.con (.int k (if n'<n then n' else n))) | .max=>some (.con (.int k (if n'>n then n' else n)))|_=>none)
   |false=>none)
  |_,_=>none
 |_,_=>none
def val(t:TT)(e:Env)(hp:Heap):Op->Option V
 | .move x=>evC e x
 | .assign x=>evC e x
 | .pick c x y=>(match evC e c with
  |some (.con (.bool b))=>(match b with|true=>evC e x|false=>evC e y)
  |_=>none)
 | .binOp op T x y _=>(match evC e x with|some a=>(match evC e y with|some b=>bin t op T a b|none=>none)|none=>none)
 | .unOp op _ x=>(match evC e x with
  |some (.con (.bool b))=>(match op with | .not=>some (.con (.bool (!b)))|_=>none)
  |some (.con (.int k n))=>(match op with | .neg=>some (.con (.int k (k.wrap (0 - n))))|_=>none)
  |_=>none)
 | .extract x i=>(match evC e x with|some (.tup vs)=>lgt vs i|_=>none)
 | .load T x=>(match evC e x with
  |some (.iptr row o)=>ldV t T row o
  |some (.ptr id k i o)=>(match hgC hp id with
   |some (.arr _ k2 rows)=>(match Nat.beq k k2 with|true=>(match lgt rows i with|some row=>ldV t T row o|none=>none)|false=>none)
   |_=>none)
  |_=>none)
 | .fieldAddr T x f=>(match ask t T (TF.qF f) with
  |some off=>(match evC e x with|some (.ptr id k i o)=>some (.ptr id k i (o+off))|some (.iptr row o)=>some (.iptr row (o+off))|_=>none)
  |none=>none)
 | .field T x f=>(match ask t T (TF.qF f) with
  |some off=>(match ask t T (TF.qFC f) with|some _=>(match evC e x with|some (.agg cs)=>lgt cs off|_=>none)|none=>none)
  |none=>none)
 | .build T parts=>(match ask t T TF.qZ with
  |some (_,zs)=>(match ask t T TF.qPl with
   |some pls=>(match evP e parts.toList with
    |some ps=>(match fillV (fun i=>pls[i]?) (zs.map .con) ps with
     |some cs=>(match frc cs with|some cs=>some (.agg cs)|none=>none)
     |none=>none)
    |none=>none)
   |none=>none)
  |none=>none)
 | .makeFunc fn first caps=>(match fn with
  | .func f=>(match first.toList with|[]=>(match evL e caps.toList with|some cs=>some (.fn (.func f) [] cs)|none=>none)|_=>none)
  |_=>none)
 | .convert src dst x=>(match ask t dst TF.qI with
  |some k=>(match ask t src TF.qU with|some _=>(match evC e x with|some (.con (.int _ n))=>some (.con (.int k (k.wrap n)))|_=>none)|none=>none)
  |none=>none)
 | .nilCheck x=>(match evC e x with|some (.ptr a b c d)=>some (.ptr a b c d)|some (.iptr a b)=>some (.iptr a b)|_=>none)
 | .indexAddr T x y=>(match ask t T TF.qArr with
  |some (len,k)=>(match evC e x with
   |some (.ptr id a i o)=>(match evC e y with
    |some (.con (.int _ n))=>(match n with
     | .ofNat j=>(match Nat.blt j len with|true=>some (.ptr id a i (o+j*k))|false=>none)
     |_=>none)
    |_=>none)
   |_=>none)
  |none=>none)
 | .call c=>(match c.callee with
  | .builtin b=>(match c.args.toList,c.argTypes.toList with
   |[x],[T]=>(match evC e x with|some v=>ap1 b t T v|none=>none)
   |[x,y],[_,_]=>(match evC e x with|some v=>(match evC e y with|some u=>ap2 b v u|none=>none)|none=>none)
   |_,_=>none)
  |_=>none)
 |_=>none
end
section
variable{K:Ctx}{Q:Post}{S S':St}{s s':List It}{ops:Array Oper}{rest:List Oper}{op:Op}{ty:TypeId}{pos:String}{after:Array Edge}{g:Option (Nat×Bool)}{t:TT}
theorem bin_ok(ht:TTok K.P t){bop:BinOp}{T T':TypeId}{x y:Operand}{a b v:V}{d:Nat}(h:bin t bop T a b=some v)(hx:evl K S x=a)(hy:evl K S y=b)
  (hw:Wants ops S ⟨some d,.binOp bop T x y T',ty,pos,after,g⟩ true) (hN:Nat.blt d K.N=true) (k:AOps K ops rest Q (S.put d v)):AOps K ops (⟨some d,.binOp bop T x y T',ty,pos,after,g⟩::rest) Q S:=by
 unfold bin at h
 split at h
 ·split at h
  ·grind [aops_bin]
  ·grind [aops_binT,str_strL]
  ·split at h
   ·rename_i hB
    split at h
    ·simp at h;subst h;exact aops_beq false hw (askB ht hB) hx hy hN k
    ·simp at h;subst h;exact aops_beq true hw (askB ht hB) hx hy hN k
    grind
   grind
  ·split at h
   ·rename_i hB
    split at h
    ·simp at h;subst h;exact aops_nilNil false (askSn ht hB) hw hx hy hN k
    ·simp at h;subst h;exact aops_nilNil true (askSn ht hB) hw hx hy hN k
    grind
   grind
  grind
 grind
theorem ldV_agg{t:TT}{T o:Nat}{row:List V}{v:V}{n:Nat}(hn:ask t T TF.qA=some n)(h:ldV t T row o=some v):∃cs,v=.agg cs/\cut row o n=some cs/\ndB cs=true:=by
 grind [ldV]
theorem ldV_cell{t:TT}{T o:Nat}{row:List V}{v:V}(hn:ask t T TF.qA=none)(h:ldV t T row o=some v):ask t T TF.qC=some ()/\lgt row o=some v/\v.deep=false:=by
 grind [ldV]
theorem ldV_i(ht:TTok K.P t){T:TypeId}{x:Operand}{row:List V}{o:Nat}{v:V}{d:Nat}(h:ldV t T row o=some v)(hx:evl K S x=.iptr row o)
  (hw:Wants ops S ⟨some d,.load T x,ty,pos,after,g⟩ true) (hN:Nat.blt d K.N=true) (k:AOps K ops rest Q (S.put d v)):AOps K ops (⟨some d,.load T x,ty,pos,after,g⟩::rest) Q S:=by
 cases hn:ask t T TF.qA with
 |some n=>
  obtain⟨cs,rfl,hc,_⟩:=ldV_agg hn h
  exact aops_iload_agg (askA ht hn) hw hx (cut_ok hc).1 (cut_ok hc).2 hN k
 |none=>
  obtain⟨hq,hc,_⟩:=ldV_cell hn h<;>grind [aops_iload_cell,askC,lgt_ok]
theorem ldV_p(ht:TTok K.P t){T e:TypeId}{x:Operand}{id k i:Nat}{rows:List (List V)}{row:List V}{o:Nat}{v:V}{d:Nat}(h:ldV t T row o=some v)(hx:evl K S x=.ptr id k i o)
  (ho:hget S.hp id=.arr e k rows) (hr:rows[i]? = some row)
  (hw:Wants ops S ⟨some d,.load T x,ty,pos,after,g⟩ true) (hN:Nat.blt d K.N=true) (kk:AOps K ops rest Q (S.put d v)):AOps K ops (⟨some d,.load T x,ty,pos,after,g⟩::rest) Q S:=by
 cases hn:ask t T TF.qA with
 |some n=>
  obtain⟨cs,rfl,hc,hd⟩:=ldV_agg hn h
  exact aops_load_agg (askA ht hn) hw hx ho hr (cut_ok hc).1 (cut_ok hc).2 hd hN kk
 |none=>
  obtain⟨hq,hc,hd⟩:=ldV_cell hn h<;>grind [aops_load_cell,askC,lgt_ok]
theorem tyFC_ok{P:Program}{T f:Nat}(h:tyFC P T f=true):∃fs fl,P.underlying T=some (.struct fs)/\fs[f]? = some fl/\tyC P fl.type=true:=by
 grind [tyFC]
theorem toList_one{α:Type}{a:Array α}{x:α}(h:a.toList=[x]):a=#[x]:=by grind
theorem toList_two{α:Type}{a:Array α}{x y:α}(h:a.toList=[x,y]):a=#[x,y]:=by grind
theorem toList_nil{α:Type}{a:Array α}(h:a.toList=[]):a=#[]:=by grind
theorem val_ok(ht:TTok K.P t){e:Env}{hp:Heap}(ha:Ag e S)(hh:AgH hp S){v:V}{d:Nat}(h:val t e hp op=some v)(hw:Wants ops S ⟨some d,op,ty,pos,after,g⟩ true)(hN:Nat.blt d K.N=true)
  (k:AOps K ops rest Q (S.put d v)):AOps K ops (⟨some d,op,ty,pos,after,g⟩::rest) Q S:=by
 cases op with
 |move x=>exact aops_move v hw (evC_ok ha h) hN k
 |assign x=>exact aops_assign v hw (evC_ok ha h) hN k
 |pick c x y=>
  simp only[val] at h
  split at h
  ·rename_i b hc
   cases b with
   |true=>exact aops_pick true v hw (evC_ok ha hc) rfl (evC_ok ha h) hN k
   |false=>exact aops_pick false v hw (evC_ok ha hc) rfl (evC_ok ha h) hN k
  grind
 |binOp bop T x y T'=>
  grind [val,bin_ok,evC_ok]
 |unOp uop T x=>
  grind [val,aops_not,evC_ok,aops_neg]
 |extract x i=>
  grind [val,aops_extract,evC_ok,lgt_ok]
 |load T x=>
  simp only[val] at h
  split at h
  ·grind [ldV_i,evC_ok]
  ·rename_i id kk i o hx
   split at h
   ·rename_i e k2 rows ho
    split at h
    ·rename_i hk
     have hk:=bw8 hk
     subst hk
     split at h
     ·rename_i row hr
      exact ldV_p ht h (evC_ok ha hx) (hh _ _ ho) (lgt_ok hr) hw hN k
     grind
    grind
   grind
  grind
 |fieldAddr T x f=>
  simp only[val] at h
  split at h
  ·rename_i off hF
   split at h
   ·rename_i hx;simp at h;subst h;exact aops_fieldAddr (askF ht hF) hw (evC_ok ha hx) hN k
   ·rename_i hx;simp at h;subst h;exact aops_ifieldAddr (askF ht hF) hw (evC_ok ha hx) hN k
   grind
  grind
 |field T x f=>
  simp only[val] at h
  split at h
  ·rename_i off hF
   split at h
   ·rename_i hFC
    split at h
    ·rename_i cs hx;exact aops_fieldC v (askF ht hF) (tyFC_ok (askFC ht hFC)) hw (evC_ok ha hx) (lgt_ok h) hN k
    grind
   grind
  grind
 |build T parts=>
  simp only[val] at h
  split at h
  ·rename_i n zs hz
   split at h
   ·rename_i pls hp
    split at h
    ·rename_i ps hps
     split at h
     ·rename_i cs hf
      split at h
      ·rename_i cs' hc
       simp at h;subst h
       have hc:=frc_ok hc
       subst hc
       exact aops_build ps cs (askZ ht hz).1 (askPl ht hp) (askZ ht hz).2.2 hw (evP_ok ha hps) hf hN k
      grind
     grind
    grind
   grind
  grind
 |makeFunc fn first caps=>
  simp only[val] at h
  grind [toList_nil,aops_makeFunc,evL_ok]
 |convert src dst x=>
  simp only[val] at h
  split at h
  ·rename_i kk hI
   split at h
   ·rename_i hU
    split at h
    ·rename_i hx;simp at h;subst h;exact aops_convInt (askI ht hI) (askU ht hU) hw (evC_ok ha hx) hN k
    grind
   grind
  grind
 |nilCheck x=>
  grind [val,aops_nilCheck_ptr,evC_ok,aops_nilCheck_iptr]
 |indexAddr T x y=>
  simp only[val] at h
  split at h
  ·rename_i len kk hA
   split at h
   ·rename_i hx
    split at h
    ·rename_i hy
     split at h
     ·split at h
      ·rename_i j hb
       simp at h;subst h
       have:=ar9 hb
       exact aops_index_arr (askArr ht hA) hw (evC_ok ha hx) (evC_ok ha hy) (by simp) (Nat.lt_of_succ_le this) hN k
      grind
     grind
    grind
   grind
  grind
 |call c=>
  obtain⟨callee,args,at'⟩:=c
  simp only[val] at h
  split at h
  ·rename_i b
   split at h
   ·rename_i x T h1 h2
    have h1:=toList_one h1
    have h2:=toList_one h2
    subst h1;subst h2
    split at h
    ·rename_i a ha'
     have ha':=evC_ok (K:=K) ha ha'
     unfold ap1 at h
     split at h
     ·split at h
      ·grind [aops_lenT,askStr,str_strL]
      ·split at h
       ·split at h
        ·rename_i hS;simp at h;subst h
         exact aops_len (askSn ht hS) hw ha' rfl hN k
        grind
       grind
      grind
     ·split at h
      ·split at h
       ·rename_i hS;simp at h;subst h
        exact aops_len (askSn ht hS) hw ha' rfl hN k
       grind
      grind
     grind
    grind
   ·rename_i x y T T' h1 h2
    have h1:=toList_two h1
    have h2:=toList_two h2
    subst h1;subst h2
    split at h
    ·rename_i a ha'
     split at h
     ·rename_i b' hb
      have ha':=evC_ok (K:=K) ha ha'
      have hb:=evC_ok (K:=K) ha hb
      unfold ap2 at h
      split at h
      ·split at h
       ·split at h
        ·rename_i hk
         have hk:=of_decide_eq_true hk
         grind [aops_min,aops_max]
        grind
       grind
      grind
     grind
    grind
   grind
  grind
 |_=>simp[val] at h
def wt(ops:Array Oper)(e:Env):Option (Nat×Bool)->Option Bool
 |none=>some true
 |some (j,want)=>
  match ops[j]? with
  |some o=>(match o.dst with
   |some t=>(match gtC e t with
    |some (.con v)=>(match v with
     | .bool c=>(match c with|true=>some want|false=>(match want with|true=>some false|false=>some true))
     | .tuple a=>(match a.toList with|[]=>some false|_=>none)
     |_=>none)
    |_=>none)
   |none=>none)
  |none=>none
theorem wt_ok{e:Env}(ha:Ag e S){o:Oper}{b:Bool}(h:wt ops e o.guard=some b):Wants ops S o b:=by
 unfold Wants
 generalize o.guard=gd at h
 cases gd with
 |none=>simp_all[wt]
 |some p=>
  obtain⟨j,want⟩:=p
  simp only[wt] at h
  split at h
  ·rename_i o' ho
   split at h
   ·rename_i t htt
    refine⟨t,by grind,?_⟩
    split at h
    ·rename_i v hv
     have hv:=ha _ _ hv
     cases v with
     |bool c=>
      left
      cases c<;>cases want<;>simp at h<;>subst h<;>grind
     |tuple a=>
      simp only at h
      split at h
      ·rename_i hl
       have hl:=toList_nil hl
       subst hl
       simp at h
       right;exact⟨hv,h⟩
      grind
     |_=>simp at h
    grind
   grind
  grind
def sto(t:TT)(e:Env)(hp:Heap):Op->Option (Nat×Ob)
 | .store T x y=>(match ask t T TF.qS with
  |some n=>(match evC e x with
   |some (.ptr id k i off)=>(match hgC hp id with
    |some (.arr ty k2 rows)=>(match Nat.beq k k2,i,rows with
     |true,0,[row]=>(match evC e y with
      |some v=>(match vcC v with
       |some cs=>(match lenIs n cs&&allB cs&&Nat.ble (off+n) row.length with
        |true=>(match frc (row.take off++cs++row.drop (off+n)) with|some row'=>some (id,.arr ty k [row'])|none=>none)
        |false=>none)
       |none=>none)
      |none=>none)
     |_,_,_=>none)
    |_=>none)
   |_=>none)
  |none=>none)
 |_=>none
theorem sto_ok(ht:TTok K.P t){e:Env}{hp:Heap}(ha:Ag e S)(hh:AgH hp S){id:Nat}{ob:Ob}(h:sto t e hp op=some (id,ob))(hw:Wants ops S ⟨none,op,ty,pos,after,g⟩ true)
  (k:AOps K ops rest Q ⟨S.env,(id,ob)::S.hp,S.nx⟩):AOps K ops (⟨none,op,ty,pos,after,g⟩::rest) Q S:=by
 unfold sto at h
 split at h
 ·split at h
  ·rename_i n hn
   split at h
   ·rename_i hx
    split at h
    ·rename_i ho
     split at h
     ·rename_i hk
      have hk:=bw8 hk
      subst hk
      split at h
      ·rename_i v hy
       split at h
       ·rename_i cs hc
        split at h
        ·rename_i hb
         simp only[al9] at hb
         have hl:=lenIs_ok hb.1.1
         subst hl
         split at h
         ·rename_i row' hr
          have hr:=frc_ok hr
          simp at h;obtain⟨rfl,rfl⟩:=h
          exact aops_store cs _ (askS ht hn) hw (evC_ok ha hx) (evC_ok ha hy) (vcC_ok hc) (allB_ok hb.1.2) (hh _ _ ho) rfl hb.2 (by grind) k
         grind
        grind
       grind
      grind
     grind
    grind
   grind
  grind
 grind
def one(t:TT)(N:Nat)(ops:Array Oper)(o:Oper):St->Option St
 |⟨e,hp,nx⟩=>
  match wt ops e o.guard with
  |none=>none
  |some b=>(match b with
   |false=>(match o.dst with|some d=>(match Nat.blt d N with|true=>some ⟨(d,.con undef)::e,hp,nx⟩|false=>none)|none=>none)
   |true=>(match o.dst with
    |some d=>(match Nat.blt d N with
     |false=>none
     |true=>(match o.op with
      | .alloc T=>(match ask t T TF.qZ with
       |some (n,zs)=>(match frc (zs.map V.con) with|some cs=>some ⟨(d,.ptr nx n 0 0)::e,(nx,.arr T n [cs])::hp,nx+1⟩|none=>none)
       |none=>none)
      | .box T x=>(match ask t T TF.qS with
       |some n=>(match evC e x with
        |some v=>(match vcC v with
         |some cs=>(match lenIs n cs&&allB cs with|true=>some ⟨(d,.ptr nx n 0 0)::e,(nx,.arr T n [cs])::hp,nx+1⟩|false=>none)
         |none=>none)
        |none=>none)
       |none=>none)
      | .makeMap _ r=>(match r with|none=>some ⟨(d,.map nx)::e,(nx,.map [])::hp,nx+1⟩|some _=>none)
      |op=>(match val t e hp op with|some v=>some ⟨(d,v)::e,hp,nx⟩|none=>none)))
    |none=>(match sto t e hp o.op with|some (id,ob)=>some ⟨e,(id,ob)::hp,nx⟩|none=>none)))
theorem one_ok(ht:TTok K.P t){o:Oper}(h:one t K.N ops o S=some S')(k:AOps K ops rest Q S'):AOps K ops (o::rest) Q S:=by
 have ha:Ag S.env S:=agE
 have hh:AgH S.hp S:=agH
 obtain⟨e,hp,nx⟩:=S
 simp only at ha hh
 simp only[one] at h
 split at h
 ·simp at h
 ·rename_i hw
  have hw:=wt_ok ha hw
  split at h
  ·split at h
   ·rename_i d hd
    split at h
    ·rename_i hN;simp at h;subst h;exact aops_skip hw hd hN k
    grind
   grind
  ·obtain⟨dst,op,ty,pos,after,g⟩:=o
   cases dst with
   |some d=>
    simp only at h
    split at h
    ·simp at h
    ·rename_i hN
     split at h
     ·split at h
      ·rename_i n zs hz
       obtain⟨z1,z2,z3⟩:=askZ ht hz
       split at h<;>simp_all[frc_ok,aops_alloc]
      grind
     ·split at h
      ·split at h
       ·rename_i hv
        split at h
        ·rename_i cs hc
         split at h
         ·rename_i hb
          simp only[al9] at hb
          simp at h;subst h
          have hl:=lenIs_ok hb.1
          subst hl
          exact aops_box cs hw (evC_ok ha hv) (vcC_ok hc) (allB_ok hb.2) hN k
         grind
        grind
       grind
      grind
     ·grind [aops_makeMap]
     ·split at h
      ·rename_i v hv;simp at h;subst h
       exact val_ok ht ha hh hv hw hN k
      grind
   |none=>
    grind [sto_ok]
def stp(t:TT)(N:Nat):List It->St->Option (List It×St)
 | .c x::s,S=>
  (match x with
  | .seq x y=>some (.c x::.c y::s,S)
  | .skip=>some (s,S)
  | .scope x=>some (.c x::s,S)
  | .label _=>some (s,S)
  | .block id x=>some (.c x::.b id::s,S)
  | .region _ ops draw=>(match draw with|false=>some (.o ops ops.toList::s,S)|true=>none)
  | .exit i=>(match unw i s with|some s'=>some (s',S)|none=>none)
  | .cond c x y=>(match S with
   |⟨e,hp,nx⟩=>(match evC e c with
    |some (.con v)=>(match v with | .bool b=>(match b with|true=>some (.c x::s,⟨e,hp,nx⟩)|false=>some (.c y::s,⟨e,hp,nx⟩))|_=>none)
    |_=>none))
  |_=>none)
 | .b _::s,S=>some (s,S)
 | .o ops l::s,S=>(match l with|[]=>some (s,S)|o::l=>(match one t N ops o S with|some S'=>some (.o ops l::s,S')|none=>none))
 |_,_=>none
theorem stp_ok(ht:TTok K.P t)(h:stp t K.N s S=some (s',S'))(k:WG K Q s' S'):WG K Q s S:=by
 match s,h with
 |[],h=>simp[stp] at h
 | .j _::s,h=>simp[stp] at h
 | .b id::s,h=>simp[stp] at h;obtain⟨rfl,rfl⟩:=h;exact k
 | .o ops []::s,h=>simp[stp] at h;obtain⟨rfl,rfl⟩:=h;exact aops_nil k
 | .o ops (o::l)::s,h=>
  simp only[stp] at h
  split at h
  ·rename_i S2 h2;simp at h;obtain⟨rfl,rfl⟩:=h
   exact one_ok ht h2 k
  ·simp at h
 | .c x::s,h=>
  simp only[stp] at h
  split at h
  ·simp at h;obtain⟨rfl,rfl⟩:=h;exact awp_seq k
  ·simp at h;obtain⟨rfl,rfl⟩:=h;exact awp_skip k
  ·simp at h;obtain⟨rfl,rfl⟩:=h;exact awp_scope k
  ·simp at h;obtain⟨rfl,rfl⟩:=h;exact awp_label k
  ·simp at h;obtain⟨rfl,rfl⟩:=h;exact awp_block k
  ·split at h
   ·rename_i ops _
    simp at h;obtain⟨rfl,rfl⟩:=h
    exact awp_region (l:=ops.toList) k
   ·simp at h
  ·split at h
   ·rename_i s2 h2;simp at h;obtain⟨rfl,rfl⟩:=h;exact awp_exit (unw_ok h2 k)
   ·simp at h
  ·obtain⟨e,hp,nx⟩:=S
   simp only at h
   split at h
   ·rename_i hv
    split at h
    ·split at h
     ·simp at h;obtain⟨rfl,rfl⟩:=h;exact awp_cond_t (evC_ok (agE (S:=⟨e,hp,nx⟩)) hv) rfl k
     ·simp at h;obtain⟨rfl,rfl⟩:=h;exact awp_cond_f (evC_ok (agE (S:=⟨e,hp,nx⟩)) hv) rfl k
    ·simp at h
   ·simp at h
  ·simp at h
def run(t:TT)(N:Nat):Nat->List It->St->Option (List It×St)
 |0,s,S=>some (s,S)
 |n+1,s,S=>match stp t N s S with|some (s',S')=>run t N n s' S'|none=>none
theorem rn[ht:TC K t]:∀(n:Nat) {s:List It} {S:St},run t K.N n s S=some (s',S')->WG K Q s' S'->WG K Q s S
 |0,s,S,h,k=>by simp_all[run]
 |n+1,s,S,h,k=>by
  simp only[run] at h
  split at h
  ·rename_i s2 S2 h2;exact stp_ok ht.h h2 (rn n h k)
  ·simp at h
theorem en{c:Code}(h:WG K Q [.c c] S):AWP K c Q S:=h
theorem fo{l:List Oper}(h:WG K Q (.o ops l::s) S):AOps K ops l (post K Q s) S:=h
theorem fa{c:Code}(h:WG K Q (.c c::s) S):AWP K c (post K Q s) S:=h
theorem Ghost.env{e:Env}(h:∀t,get e t=get S.env t):Ghost K S ⟨e,S.hp,S.nx⟩:=fun m β _ _ r=>⟨m,β,r.congr h (fun _=>rfl) rfl⟩
theorem wg_cl{x:It}(hx:(∃c,x=.c c)\/∃ops l,x=.o ops l)(hg:Ghost K S S')(k:WG K Q (x::s) S'):WG K Q (x::s) S:=by
 rcases hx with ⟨c,rfl⟩|⟨ops,l,rfl⟩
 ·exact awp_ghost hg k
 ·exact aops_ghost hg k
theorem fix_env{e:Env}{hp:Heap}{nx n:Nat}{c b:Bool}(hc:gtC e n=some (.con (.bool c)))(hb:c=b):Ghost K ⟨e,hp,nx⟩ ⟨(n,.con (.bool b))::e,hp,nx⟩:=by
 refine Ghost.env (S:=⟨e,hp,nx⟩) (fun t=>?_)
 grind [get_put,gtC_ok]
variable{R:Type}{r:R}
theorem spO{A B:Option R}{c:Bool}{e:Env}{hp:Heap}{nx:Nat}{l:List Oper}(n:Nat)(h:(if c=true then A else B)=some r)(hc:gtC e n=some (.con (.bool c)))
  (kt:c=true->A=some r->WG K Q (.o ops l::s) ⟨(n,.con (.bool true))::e,hp,nx⟩) (kf:c=false->B=some r->WG K Q (.o ops l::s) ⟨(n,.con (.bool false))::e,hp,nx⟩):
  WG K Q (.o ops l::s) ⟨e,hp,nx⟩:=by
 cases c with
 |true=>exact wg_cl (.inr ⟨_,_,rfl⟩) (fix_env hc rfl) (kt rfl (by grind))
 |false=>exact wg_cl (.inr ⟨_,_,rfl⟩) (fix_env hc rfl) (kf rfl (by grind))
theorem spC{A B:Option R}{c:Bool}{e:Env}{hp:Heap}{nx:Nat}{x y:Code}{n:Nat}(h:(if c=true then A else B)=some r)(hc:gtC e n=some (.con (.bool c)))
  (kt:c=true->A=some r->WG K Q (.c x::s) ⟨e,hp,nx⟩) (kf:c=false->B=some r->WG K Q (.c y::s) ⟨e,hp,nx⟩):
  WG K Q (.c (.cond (.tmp n) x y)::s) ⟨e,hp,nx⟩:=
 awp_cond c (gtC_ok hc) (fun hb=>kt hb (by grind)) (fun hb=>kf hb (by grind))
theorem spL{c:Bool}{e:Env}{hp:Heap}{nx:Nat}{x y:Code}{n:Nat}(hc:gtC e n=some (.con (.bool c)))
  (kt:c=true->WG K Q (.c x::s) ⟨e,hp,nx⟩) (kf:c=false->WG K Q (.c y::s) ⟨e,hp,nx⟩):WG K Q (.c (.cond (.tmp n) x y)::s) ⟨e,hp,nx⟩:=
 awp_cond c (gtC_ok hc) kt kf
theorem fxC{c b:Bool}{e:Env}{hp:Heap}{nx:Nat}{x:Code}(n:Nat)(hb:c=b)(hc:gtC e n=some (.con (.bool c)))(k:WG K Q (.c x::s) ⟨(n,.con (.bool b))::e,hp,nx⟩):
  WG K Q (.c x::s) ⟨e,hp,nx⟩:=wg_cl (.inl ⟨_,rfl⟩) (fix_env hc hb) k
def Jn{α:Type}(K:Ctx)(T:α->St)(G:α->Prop)(S:St):Prop:=∃p,G p/\Ghost K S (T p)
theorem jC{α:Type}{x:Code}(T:α->St)(G:α->Prop)(h:WG K Q (.c x::.j (Jn K T G)::s) S)(k:∀p,G p->WG K Q s (T p)):WG K Q (.c x::s) S:=by
 intro m β w a r
 refine wpIn_mono (h m β w a r) ?_
 rintro e _ _ ⟨hp,S',m',β',q,r'⟩
 cases e with
 |normal=>
  obtain⟨p,hg,hgh⟩:=q
  obtain⟨m2,β2,r2⟩:=hgh _ _ _ _ r'
  exact⟨rfl,T p,m2,β2,k p hg,r2⟩
 |_=>exact⟨hp,S',m',β',q,r'⟩
theorem lC{α:Type}{x:Code}(T:α->St)(G:Nat->α->Prop)(h0:∀p,¬G 0 p)(n:Nat)(p:α)(h:G n p)(hg:Ghost K S (T p))
  (round:∀n p,G (n+1) p->WG K Q (.c x::.j (Jn K T (G n))::s) (T p)):WG K Q (.c (.loop x)::s) S:=by
 refine awp_ghost hg ?_
 clear hg
 induction n generalizing p with
 |zero=>grind
 |succ n ih=>
  refine awp_loop ?_
  intro m β w a r
  refine wpIn_mono (round n p h m β w a r) ?_
  rintro e a' w' ⟨hp,S',m',β',q,r'⟩
  cases e with
  |normal=>
   obtain⟨p',hg,hgh⟩:=q
   obtain⟨m2,β2,r2⟩:=hgh _ _ _ _ r'
   exact⟨rfl,T p',m2,β2,ih p' hg,r2⟩
  |_=>exact⟨hp,S',m',β',q,r'⟩
end
end Go.Pv
