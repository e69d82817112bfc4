/- Part of the proof: UP1, UP2, UP3, UP4, XR, UP5, UP6, UP7, UP8. -/
import Derived.Test.YtjofofmllnpkpaaGreatDoorSURD
import Derived.Test.YtjofofmllnpkpaaGreatDoorSPvY
import Derived.Test.YtjofofmllnpkpaaGreatDoorSDC
namespace Go.Proofs.YtjofofmllnpkpaaGreatDoor
open Go Go.Pv
set_option linter.unusedVariables false
set_option linter.unusedSimpArgs false
set_option maxRecDepth 100000
theorem splitK_len(sep:List UInt8):∀(k:Nat) (s:List UInt8),(Lib.splitK sep 0 k s).length<=k+1
 |0,s=>by simp[Lib.splitK]
 |k+1,s=>by
  unfold Lib.splitK
  split
  ·simp
  ·have:=splitK_len sep k (s.drop ((Lib.index s sep).toNat+sep.length))
   simp only[List.length_cons];omega
theorem splitK_mem(sep:List UInt8):∀(k:Nat) (s x:List UInt8),x∈Lib.splitK sep 0 k s->x.length<=s.length
 |0,s,x,h=>by simp[Lib.splitK] at h;subst h;omega
 |k+1,s,x,h=>by
  unfold Lib.splitK at h
  split at h
  ·simp at h;subst h;omega
  ·rcases List.mem_cons.1 h with rfl|h
   ·simp;omega
   ·have:=splitK_mem sep k _ x h
    simp at this;omega
theorem split_len(s:List UInt8)(c:UInt8):(Lib.split s [c]).length<=s.length+1:=by
 have:=splitK_len [c] (Lib.count s [c]) s
 rw[Lib.count_one] at this
 have h2:=List.count_le_length (a:=c) (l:=s)
 unfold Lib.split
 rw[Lib.count_one]
 omega
theorem split_mem{s sep x:List UInt8}(h:x∈Lib.split s sep):x.length<=s.length:=splitK_mem _ _ _ _ h
theorem cut_len(s sep:List UInt8):(Lib.cut s sep).1.length<=s.length:=by
 unfold Lib.cut
 split<;>simp<;>omega
def prt(s:Tx):List Tx:=(Lib.split (Lib.cut s [35]).1 [32]).filter (fun x=>!(x==[]))
theorem prt_mem{s x:Tx}(h:x∈prt s):x.length<=s.length:=Nat.le_trans (split_mem (List.mem_filter.1 h).1) (cut_len s _)
theorem prt_len(s:Tx):(prt s).length<=s.length+1:=Nat.le_trans (List.length_filter_le ..) (Nat.le_trans (split_len _ _) (by have:=cut_len s [35];omega))
theorem M11_eq(F:Nat)(x:List UInt8)(c:UInt8)(h:x.length<=1000000):M11 F x [c]=some (Lib.split x [c]):=by
 unfold M11
 rw[if_pos ⟨by omega,by simp⟩]
theorem M16_eq(F:Nat)(x:List UInt8)(h:x.length<=1000000):M16 F x [35]=some (Lib.cut x [35]):=by
 unfold M16
 rw[if_pos (by omega)]
theorem M12_L1_eq(F:Nat)(k:List Tx->Option (List Tx)):∀(l acc:List Tx),acc.length+l.length<=1000000000->M12_L1 F k l acc=k (acc++l.filter (fun x=>!(x==[])))
 |[],acc,_=>by simp[M12_L1]
 |x::l,acc,h=>by
  unfold M12_L1
  simp only[List.length_cons] at h
  simp only[jn_def]
  cases hx:(x==([]:Tx)) with
  |true=>rw[if_neg (by simp),M12_L1_eq F k l acc (by omega),List.filter_cons_of_neg (by simp[hx])]
  |false=>rw[if_pos (by simp),if_pos (by simp only[List.length_append,List.length_singleton];omega),M12_L1_eq F k l _ (by simp only[List.length_append,List.length_singleton];omega),List.filter_cons_of_pos (by simp[hx]),List.append_assoc];rfl
theorem M12_eq(F:Nat)(x:Tx)(h:x.length<=1000000):M12 F x=some (prt x):=by
 have h1:=cut_len x [35]
 have h2:=split_len (Lib.cut x [35]).1 32
 unfold M12
 rw[M16_eq F x h,Option.bind_some,M11_eq F _ _ (by omega),Option.bind_some,jn_def,M12_L1_eq F _ _ _ (by simp only[List.length_nil];omega)]
 rfl
abbrev Sto:=Int×List TIface×List TType×List TFunc×List Tx
def lstU{α:Type}(l:List α)(f:α->α):List α:=match idx l (w64 ((l.length:Int) - 1)) with|some x=>l.set (w64 ((l.length:Int) - 1)).toNat (f x)|none=>l
theorem lstU_some{α:Type}{l:List α}{x:α}(f:α->α)(h:idx l (w64 ((l.length:Int) - 1))=some x):lstU l f=l.set (w64 ((l.length:Int) - 1)).toNat (f x):=by unfold lstU;rw[h]
theorem lstU_len{α:Type}(l:List α)(f:α->α):(lstU l f).length=l.length:=by unfold lstU;split<;>simp
theorem lstU_mem{α:Type}{l:List α}{f:α->α}{y:α}(h:y∈lstU l f):y∈l\/∃x,x∈l/\y=f x:=by
 unfold lstU at h
 split at h
 ·rename_i x hx
  rcases List.mem_or_eq_of_mem_set h with h|h
  ·exact .inl h
  ·exact .inr ⟨x,List.mem_of_getElem? (idx_some hx).2,h⟩
 ·exact .inl h
theorem last_some{α:Type}{l:List α}(h:l≠[])(hl:l.length<=1000000000):∃x,x∈l/\idx l (w64 ((l.length:Int) - 1))=some x:=by
 have h0:1<=l.length:=List.length_pos_iff.2 h
 rw[w64m h0 (by omega),idx_nat (by omega)]
 exact⟨_,List.getElem_mem _,rfl⟩
def sIface:Tx:=[105,102,97,99,101]
def sType:Tx:=[116,121,112,101]
def sFunc:Tx:=[102,117,110,99]
def sEntry:Tx:=[101,110,116,114,121]
def sMethod:Tx:=[109,101,116,104,111,100]
def sMakes:Tx:=[109,97,107,101,115]
def sCall:Tx:=[99,97,108,108]
def sDisp:Tx:=[100,105,115,112,97,116,99,104]
def sIf:Tx:=[105,102]
def cl1:List Tx->Option TCall
 |[t]=>some (TCall.mk 1 t [] [])
 |[t,w,f]=>if w=sIf then some (TCall.mk 1 t [] f) else none
 |_=>none
def cl2:List Tx->Option TCall
 |[t,m]=>some (TCall.mk 2 t m [])
 |[t,m,w,f]=>if w=sIf then some (TCall.mk 2 t m f) else none
 |_=>none
def lineS(p:List Tx)(q:Sto):Option Sto:=
 match p with
 |[]=>none
 |w::ps=>
  if w=sIface then (match ps with|n::ms=>some (0,q.2.1++[TIface.mk n ms],q.2.2.1,q.2.2.2.1,q.2.2.2.2)|[]=>none)
  else if w=sType then (match ps with|[n]=>some (1,q.2.1,q.2.2.1++[TType.mk n []],q.2.2.2.1,q.2.2.2.2)|_=>none)
  else if w=sFunc then (match ps with|[n,c]=>some (2,q.2.1,q.2.2.1,q.2.2.2.1++[TFunc.mk n c [] []],q.2.2.2.2)|_=>none)
  else if w=sEntry then (match ps with|[n]=>some (0,q.2.1,q.2.2.1,q.2.2.2.1,q.2.2.2.2++[n])|_=>none)
  else if w=sMethod then (match ps with|[n,f]=>(if q.1=1 then some (q.1,q.2.1,lstU q.2.2.1 (fun x=>{ x with Methods:=x.Methods++[TMethod.mk n f] }),q.2.2.2.1,q.2.2.2.2) else none)|_=>none)
  else if q.1=2 then
   if w=sMakes then (match ps with|[t]=>some (q.1,q.2.1,q.2.2.1,lstU q.2.2.2.1 (fun x=>{ x with Makes:=x.Makes++[t] }),q.2.2.2.2)|_=>none)
   else if w=sCall then (match cl1 ps with|some c=>some (q.1,q.2.1,q.2.2.1,lstU q.2.2.2.1 (fun x=>{ x with Calls:=x.Calls++[c] }),q.2.2.2.2)|none=>none)
   else if w=sDisp then (match cl2 ps with|some c=>some (q.1,q.2.1,q.2.2.1,lstU q.2.2.2.1 (fun x=>{ x with Calls:=x.Calls++[c] }),q.2.2.2.2)|none=>none)
   else none
  else none
structure Inv(i:Nat)(q:Sto):Prop where
 hof:q.1=0\/(q.1=1/\q.2.2.1≠[])\/(q.1=2/\q.2.2.2.1≠[])
 hi:q.2.1.length<=i
 ht:q.2.2.1.length<=i
 hf:q.2.2.2.1.length<=i
 he:q.2.2.2.2.length<=i
 hti:∀x,x∈q.2.1->x.Name.length<=1000000/\x.Methods.length<=1000001/\∀y,y∈x.Methods->y.length<=1000000
 htt:∀x,x∈q.2.2.1->x.Name.length<=1000000/\x.Methods.length<=i/\∀y,y∈x.Methods->y.Name.length<=1000000/\y.Func.length<=1000000
 htf:∀x,x∈q.2.2.2.1->x.Name.length<=1000000/\x.Component.length<=1000000/\x.Calls.length<=i/\x.Makes.length<=i/\(∀c,c∈x.Calls->(c.Kind=1\/c.Kind=2)/\c.Target.length<=1000000/\c.Method.length<=1000000/\c.Feature.length<=1000000)/\∀y,y∈x.Makes->y.length<=1000000
 hte:∀y,y∈q.2.2.2.2->y.length<=1000000
theorem idx0{α:Type}{a:α}{l:List α}:idx (a::l) 0=some a:=rfl
theorem idx1{α:Type}{a b:α}{l:List α}:idx (a::b::l) 1=some b:=rfl
theorem idx2{α:Type}{a b c:α}{l:List α}:idx (a::b::c::l) 2=some c:=rfl
theorem w1:w64 ((1:Int)+1)=2:=rfl
theorem w2:w64 ((1:Int)+2)=3:=rfl
theorem w3:w64 ((2:Int)+1)=3:=rfl
theorem w4:w64 ((2:Int)+2)=4:=rfl
def no:TCall:=TCall.mk 0 [] [] []
theorem M75_1(F:Nat)(l:List Tx):∃y,M75 F 1 1 l=some y/\(match cl1 l with|some c=>y=(c,true)|none=>y.2=false):=by
 rcases l with _|⟨t,_|⟨a,_|⟨b,_|⟨c,l⟩⟩⟩⟩
 ·exact⟨_,rfl,rfl⟩
 ·exact⟨_,rfl,rfl⟩
 ·exact⟨_,rfl,rfl⟩
 ·by_cases h:a=sIf
  ·subst h;exact⟨_,rfl,rfl⟩
  ·have h':(a==([105,102]:Tx))=false:=by simpa[sIf] using h
   refine⟨(TCall.mk 1 [] [] [],false),?_,by simp[cl1,h]⟩
   unfold M75
   simp only[jn_def,List.length_cons,List.length_nil]
   rw[if_neg (by decide),if_pos (by decide),idx1,Option.bind_some,h',if_neg (by simp)]
 ·refine⟨(TCall.mk 1 [] [] [],false),?_,by simp[cl1]⟩
  unfold M75
  simp only[jn_def,List.length_cons]
  rw[w2,if_neg (by simp;omega),if_neg (by simp;omega)]
theorem M75_2(F:Nat)(l:List Tx):∃y,M75 F 2 2 l=some y/\(match cl2 l with|some c=>y=(c,true)|none=>y.2=false):=by
 rcases l with _|⟨t,_|⟨a,_|⟨b,_|⟨c,_|⟨d,l⟩⟩⟩⟩⟩
 ·exact⟨_,rfl,rfl⟩
 ·exact⟨_,rfl,rfl⟩
 ·exact⟨_,rfl,rfl⟩
 ·exact⟨_,rfl,rfl⟩
 ·by_cases h:b=sIf
  ·subst h;exact⟨_,rfl,rfl⟩
  ·have h':(b==([105,102]:Tx))=false:=by simpa[sIf] using h
   refine⟨(TCall.mk 2 [] [] [],false),?_,by simp[cl2,h]⟩
   unfold M75
   simp only[jn_def,List.length_cons,List.length_nil]
   rw[if_neg (by decide),if_pos (by decide),idx2,Option.bind_some,h',if_neg (by simp)]
 ·refine⟨(TCall.mk 2 [] [] [],false),?_,by simp[cl2]⟩
  unfold M75
  simp only[jn_def,List.length_cons]
  rw[w4,if_neg (by simp;omega),if_neg (by simp;omega)]
theorem sne{a b:Tx}(h:¬a=b):(a==b)=false:=by simpa using h
theorem bigA{α:Type}{x:α}{l:List α}(k:Nat)(h:l.length<=1000001)(hk:k<=100):(l++[x]).length*k<=140737488355328:=by
 rw[List.length_append,List.length_singleton]
 exact Nat.le_trans (Nat.mul_le_mul (show l.length+1<=1000002 by omega) hk) (by decide)
theorem lS_iface(ps:List Tx)(q:Sto):lineS (sIface::ps) q=(match ps with|n::ms=>some (0,q.2.1++[TIface.mk n ms],q.2.2.1,q.2.2.2.1,q.2.2.2.2)|[]=>none):=rfl
theorem lS_type(ps:List Tx)(q:Sto):lineS (sType::ps) q=(match ps with|[n]=>some (1,q.2.1,q.2.2.1++[TType.mk n []],q.2.2.2.1,q.2.2.2.2)|_=>none):=rfl
theorem lS_func(ps:List Tx)(q:Sto):lineS (sFunc::ps) q=(match ps with|[n,c]=>some (2,q.2.1,q.2.2.1,q.2.2.2.1++[TFunc.mk n c [] []],q.2.2.2.2)|_=>none):=rfl
theorem lS_entry(ps:List Tx)(q:Sto):lineS (sEntry::ps) q=(match ps with|[n]=>some (0,q.2.1,q.2.2.1,q.2.2.2.1,q.2.2.2.2++[n])|_=>none):=rfl
theorem lS_method(ps:List Tx)(q:Sto):lineS (sMethod::ps) q=(match ps with|[n,f]=>(if q.1=1 then some (q.1,q.2.1,lstU q.2.2.1 (fun x=>{ x with Methods:=x.Methods++[TMethod.mk n f] }),q.2.2.2.1,q.2.2.2.2) else none)|_=>none):=rfl
theorem lS_method_no(ps:List Tx)(q:Sto)(h:¬q.1=1):lineS (sMethod::ps) q=none:=by
 rw[lS_method]
 split
 ·rw[if_neg h]
 ·rfl
theorem lS_makes(ps:List Tx)(q:Sto):lineS (sMakes::ps) q=if q.1=2 then (match ps with|[t]=>some (q.1,q.2.1,q.2.2.1,lstU q.2.2.2.1 (fun x=>{ x with Makes:=x.Makes++[t] }),q.2.2.2.2)|_=>none) else none:=rfl
theorem lS_call(ps:List Tx)(q:Sto):lineS (sCall::ps) q=if q.1=2 then (match cl1 ps with|some c=>some (q.1,q.2.1,q.2.2.1,lstU q.2.2.2.1 (fun x=>{ x with Calls:=x.Calls++[c] }),q.2.2.2.2)|none=>none) else none:=rfl
theorem lS_disp(ps:List Tx)(q:Sto):lineS (sDisp::ps) q=if q.1=2 then (match cl2 ps with|some c=>some (q.1,q.2.1,q.2.2.1,lstU q.2.2.2.1 (fun x=>{ x with Calls:=x.Calls++[c] }),q.2.2.2.2)|none=>none) else none:=rfl
theorem lS_other{w:Tx}(ps:List Tx)(q:Sto)(h1:w≠sIface)(h2:w≠sType)(h3:w≠sFunc)(h4:w≠sEntry)(h5:w≠sMethod)(h6:w≠sMakes)(h7:w≠sCall)(h8:w≠sDisp):lineS (w::ps) q=none:=by
 unfold lineS
 simp only[h1,h2,h3,h4,h5,h6,h7,h8,if_false]
 split<;>rfl
def In(r:Option (Bool×List TType×List TFunc))(q:Sto)(s:Option Sto):Prop:=∃y,r=some y/\(match s with|some q'=>q'=(q.1,q.2.1,y.2.1,y.2.2,q.2.2.2.2)/\y.1=true|none=>y.1=false)
theorem M39_eq(F:Nat)(w:Tx)(ps:List Tx)(q:Sto){i:Nat}(h:Inv i q)(hi:i<=1000000)(hp:ps.length<=1000001)(h1:w≠sIface)(h2:w≠sType)(h3:w≠sFunc)(h4:w≠sEntry):
  In (M39 F (w::ps) q.1 q.2.1 q.2.2.1 q.2.2.2.1 q.2.2.2.2) q (lineS (w::ps) q):=by
 have nof:q.1≠2->w≠sMethod->In (M39 F (w::ps) q.1 q.2.1 q.2.2.1 q.2.2.2.1 q.2.2.2.2) q none:=by
  intro h0 hm
  refine⟨(false,q.2.2.1,q.2.2.2.1),?_,rfl⟩
  unfold M39
  simp only[jn_def,idx0,Option.bind_some,sne (show ¬w=[109,101,116,104,111,100] from hm),Bool.false_eq_true,if_false]
  rw[if_pos (by simpa using h0)]
 by_cases h5:w=sMethod
 ·subst h5
  unfold M39
  simp only[jn_def,idx0,Option.bind_some]
  rw[if_pos (by decide)]
  rcases h.hof with h0|⟨h0,hT⟩|⟨h0,hG⟩
  ·rw[lS_method_no ps q (by omega),if_neg (by rw[h0];decide),if_pos (by rw[h0];decide)]
   exact⟨_,rfl,rfl⟩
  ·rw[lS_method,if_pos (by rw[h0];decide)]
   rcases ps with _|⟨a,_|⟨b,_|⟨c,ps⟩⟩⟩
   ·rw[if_neg (show ¬((([sMethod]:List Tx).length:Nat):Int)==3 by decide),if_pos (by rw[h0];decide)];exact⟨_,rfl,rfl⟩
   ·rw[if_neg (show ¬((([sMethod,a]:List Tx).length:Nat):Int)==3 by simp),if_pos (by rw[h0];decide)];exact⟨_,rfl,rfl⟩
   ·obtain⟨x,hx,hxe⟩:=last_some hT (by have:=h.ht;omega)
    rw[if_pos (show((([sMethod,a,b]:List Tx).length:Nat):Int)==3 from rfl),hxe,Option.bind_some,idx1,Option.bind_some,idx2,Option.bind_some,if_pos (bigA 32 (by have:=(h.htt x hx).2.1;omega) (by decide))]
    refine⟨_,rfl,?_⟩
    simp only[h0,if_true]
    rw[lstU_some _ hxe]
    exact⟨rfl,trivial⟩
   ·rw[if_neg (by simp;omega),if_pos (by rw[h0];decide)]
    exact⟨_,rfl,rfl⟩
  ·rw[lS_method_no ps q (by omega),if_neg (by rw[h0];decide),if_neg (by rw[h0];decide)]
   obtain⟨x,hx,hxe⟩:=last_some hG (by have:=h.hf;omega)
   rw[hxe,Option.bind_some,if_neg (by decide),if_neg (by decide),if_neg (by decide),Option.bind_some,if_pos (bigA 56 (by have:=(h.htf x hx).2.2.1;omega) (by decide))]
   exact⟨_,rfl,rfl⟩
 rcases Classical.em (¬q.1=2) with h0|h0
 ·have e:lineS (w::ps) q=none:=by
   unfold lineS
   simp only[h1,h2,h3,h4,h5,h0,if_false]
  rw[e];exact nof h0 h5
 replace h0:=Classical.not_not.1 h0
 have hG:q.2.2.2.1≠[]:=by
  rcases h.hof with e|⟨e,_⟩|⟨_,e⟩
  ·rw[h0] at e;exact absurd e (by decide)
  ·rw[h0] at e;exact absurd e (by decide)
  ·exact e
 obtain⟨x,hx,hxe⟩:=last_some hG (by have:=h.hf;omega)
 have lk:=h.htf x hx
 unfold M39
 simp only[jn_def,idx0,Option.bind_some,sne (show ¬w=[109,101,116,104,111,100] from h5),Bool.false_eq_true,if_false]
 rw[if_neg (by rw[h0];decide),hxe,Option.bind_some]
 by_cases h6:w=sMakes
 ·subst h6
  rw[lS_makes,if_pos h0,if_pos (by decide),if_pos (by simp),if_pos (by
   simp only[List.drop_one,List.tail_cons,List.length_append]
   exact Nat.le_trans (Nat.mul_le_mul_right 16 (show x.Makes.length+ps.length<=2000001 by omega)) (by decide))]
  refine⟨_,rfl,?_⟩
  rcases ps with _|⟨a,_|⟨b,ps⟩⟩
  ·rfl
  ·simp only[]
   rw[lstU_some _ hxe]
   exact⟨rfl,rfl⟩
  ·simp;omega
 rw[sne (show ¬w=[109,97,107,101,115] from h6),if_neg (by simp)]
 have bg:∀c:TCall,(x.Calls++[c]).length*56<=140737488355328:=fun c=>bigA 56 (by omega) (by decide)
 by_cases h7:w=sCall
 ·subst h7
  obtain⟨y,hy,hc⟩:=M75_1 F ps
  rw[lS_call,if_pos h0,if_pos (by decide),if_pos (by simp),List.drop_one,List.tail_cons,hy,Option.bind_some,Option.bind_some,if_pos (bg _)]
  refine⟨_,rfl,?_⟩
  cases e:cl1 ps with
  |none=>rw[e] at hc;exact hc
  |some c=>rw[e] at hc;subst hc;simp only[];rw[lstU_some _ hxe];exact⟨rfl,trivial⟩
 rw[sne (show ¬w=[99,97,108,108] from h7),if_neg (by simp)]
 by_cases h8:w=sDisp
 ·subst h8
  obtain⟨y,hy,hc⟩:=M75_2 F ps
  rw[lS_disp,if_pos h0,if_pos (by decide),if_pos (by simp),List.drop_one,List.tail_cons,hy,Option.bind_some,Option.bind_some,if_pos (bg _)]
  refine⟨_,rfl,?_⟩
  cases e:cl2 ps with
  |none=>rw[e] at hc;exact hc
  |some c=>rw[e] at hc;subst hc;simp only[];rw[lstU_some _ hxe];exact⟨rfl,trivial⟩
 rw[sne (show ¬w=[100,105,115,112,97,116,99,104] from h8),if_neg (by simp),Option.bind_some,if_pos (bg _),lS_other ps q h1 h2 h3 h4 h5 h6 h7 h8]
 exact⟨_,rfl,rfl⟩
def Ln(r:Option (Bool×Sto))(s:Option Sto):Prop:=∃y,r=some y/\(match s with|some q'=>y=(true,q')|none=>y.1=false)
theorem M13_eq(F:Nat)(w:Tx)(ps:List Tx)(q:Sto){i:Nat}(h:Inv i q)(hi:i<=1000000)(hp:ps.length<=1000001):
  Ln (M13 F (w::ps) q.1 q.2.1 q.2.2.1 q.2.2.2.1 q.2.2.2.2) (lineS (w::ps) q):=by
 have hhi:=h.hi;have hht:=h.ht;have hhf:=h.hf;have hhe:=h.he
 unfold M13
 simp only[idx0,Option.bind_some]
 by_cases h1:w=sIface
 ·subst h1
  rw[lS_iface,if_pos (by decide)]
  rcases ps with _|⟨n,ms⟩
  ·exact⟨_,rfl,rfl⟩
  ·rw[if_neg (by simp;omega),idx1,Option.bind_some,if_pos (by simp),if_pos (bigA 40 (by omega) (by decide))]
   exact⟨_,rfl,rfl⟩
 rw[sne (show ¬w=[105,102,97,99,101] from h1),if_neg (by simp)]
 by_cases h2:w=sType
 ·subst h2
  rw[lS_type,if_pos (by decide)]
  rcases ps with _|⟨n,_|⟨m,ms⟩⟩
  ·exact⟨_,rfl,rfl⟩
  ·rw[if_neg (by simp),idx1,Option.bind_some,if_pos (bigA 40 (by omega) (by decide))]
   exact⟨_,rfl,rfl⟩
  ·rw[if_pos (by simp;omega)];exact⟨_,rfl,rfl⟩
 rw[sne (show ¬w=[116,121,112,101] from h2),if_neg (by simp)]
 by_cases h3:w=sFunc
 ·subst h3
  rw[lS_func,if_pos (by decide)]
  rcases ps with _|⟨n,_|⟨m,_|⟨o,ms⟩⟩⟩
  ·exact⟨_,rfl,rfl⟩
  ·exact⟨_,rfl,rfl⟩
  ·rw[if_neg (by simp),idx1,Option.bind_some,idx2,Option.bind_some,if_pos (bigA 80 (by omega) (by decide))]
   exact⟨_,rfl,rfl⟩
  ·rw[if_pos (by simp;omega)];exact⟨_,rfl,rfl⟩
 rw[sne (show ¬w=[102,117,110,99] from h3),if_neg (by simp)]
 by_cases h4:w=sEntry
 ·subst h4
  rw[lS_entry,if_pos (by decide),if_pos (by simp),if_pos (by
   simp only[List.drop_one,List.tail_cons,List.length_append]
   exact Nat.le_trans (Nat.mul_le_mul_right 16 (show q.2.2.2.2.length+ps.length<=2000001 by omega)) (by decide))]
  refine⟨_,rfl,?_⟩
  rcases ps with _|⟨n,_|⟨m,ms⟩⟩
  ·rfl
  ·rfl
  ·simp;omega
 rw[sne (show ¬w=[101,110,116,114,121] from h4),if_neg (by simp)]
 obtain⟨y,hy,hs⟩:=M39_eq F w ps q h hi hp h1 h2 h3 h4
 rw[hy,Option.bind_some]
 refine⟨_,rfl,?_⟩
 cases e:lineS (w::ps) q with
 |none=>rw[e] at hs;exact hs
 |some q'=>rw[e] at hs;obtain⟨rfl,h9⟩:=hs;rw[h9]
theorem cl1_ok{ps:List Tx}{c:TCall}(h:cl1 ps=some c)(hp:∀x,x∈ps->x.length<=1000000):(c.Kind=1\/c.Kind=2)/\c.Target.length<=1000000/\c.Method.length<=1000000/\c.Feature.length<=1000000:=by
 unfold cl1 at h
 split at h
 ·cases h;exact⟨.inl rfl,hp _ (by simp),by simp,by simp⟩
 ·split at h
  ·cases h;exact⟨.inl rfl,hp _ (by simp),by simp,hp _ (by simp)⟩
  ·cases h
 ·cases h
theorem cl2_ok{ps:List Tx}{c:TCall}(h:cl2 ps=some c)(hp:∀x,x∈ps->x.length<=1000000):(c.Kind=1\/c.Kind=2)/\c.Target.length<=1000000/\c.Method.length<=1000000/\c.Feature.length<=1000000:=by
 unfold cl2 at h
 split at h
 ·cases h;exact⟨.inr rfl,hp _ (by simp),hp _ (by simp),by simp⟩
 ·split at h
  ·cases h;exact⟨.inr rfl,hp _ (by simp),hp _ (by simp),hp _ (by simp)⟩
  ·cases h
 ·cases h
theorem Inv.next{i:Nat}{q:Sto}(h:Inv i q):Inv (i+1) q:=
 ⟨h.hof,by have:=h.hi;omega,by have:=h.ht;omega,by have:=h.hf;omega,by have:=h.he;omega,h.hti,
  fun x hx=>⟨(h.htt x hx).1,by have:=(h.htt x hx).2.1;omega,(h.htt x hx).2.2⟩,
  fun x hx=>⟨(h.htf x hx).1,(h.htf x hx).2.1,by have:=(h.htf x hx).2.2.1;omega,by have:=(h.htf x hx).2.2.2.1;omega,(h.htf x hx).2.2.2.2⟩,h.hte⟩
theorem mem_snoc{α:Type}{l:List α}{x y:α}(h:y∈l++[x]):y∈l\/y=x:=by simpa using h
theorem len_snoc{α:Type}{l:List α}{x:α}{i:Nat}(h:l.length<=i):(l++[x]).length<=i+1:=by simp;omega
theorem lstU_ne{α:Type}{l:List α}{f:α->α}(h:l≠[]):lstU l f≠[]:=by
 intro e
 have:=lstU_len l f
 rw[e] at this
 exact h (List.length_eq_zero_iff.1 this.symm)
theorem Inv.line{i:Nat}{q q':Sto}{w:Tx}{ps:List Tx}(h:Inv i q)(hp:∀x,x∈ps->x.length<=1000000)(hl:ps.length<=1000001)(e:lineS (w::ps) q=some q'):Inv (i+1) q':=by
 have h':=h.next
 have fadd:∀c:TCall,q.1=2->((c.Kind=1\/c.Kind=2)/\c.Target.length<=1000000/\c.Method.length<=1000000/\c.Feature.length<=1000000)->Inv (i+1) (q.1,q.2.1,q.2.2.1,lstU q.2.2.2.1 (fun x=>{ x with Calls:=x.Calls++[c] }),q.2.2.2.2):=by
  intro c h0 hc
  have hG:q.2.2.2.1≠[]:=by
   rcases h.hof with e|⟨e,_⟩|⟨_,e⟩
   ·omega
   ·omega
   ·exact e
  refine⟨.inr (.inr ⟨h0,lstU_ne hG⟩),h'.hi,h'.ht,by rw[lstU_len];exact h'.hf,h'.he,h'.hti,h'.htt,?_,h'.hte⟩
  intro x hx
  rcases lstU_mem hx with hx|⟨y,hy,rfl⟩
  ·exact h'.htf x hx
  ·obtain⟨a1,a2,a3,a4,a5,a6⟩:=h.htf y hy
   exact⟨a1,a2,len_snoc a3,by show y.Makes.length<=_;omega,fun z hz=>(mem_snoc hz).elim (fun hz=>a5 z hz) (fun e=>by rw[e];exact hc),a6⟩
 rcases Classical.em (w=sIface) with h1|h1
 ·subst h1
  rw[lS_iface] at e
  split at e
  ·cases e
   refine⟨.inl rfl,len_snoc h.hi,h'.ht,h'.hf,h'.he,?_,h'.htt,h'.htf,h'.hte⟩
   intro x hx
   rcases mem_snoc hx with hx|rfl
   ·exact h.hti x hx
   ·exact⟨hp _ (by simp),by simp only[List.length_cons] at hl;dsimp only;omega,fun y hy=>hp y (List.mem_cons_of_mem _ hy)⟩
  ·cases e
 rcases Classical.em (w=sType) with h2|h2
 ·subst h2
  rw[lS_type] at e
  split at e
  ·cases e
   refine⟨.inr (.inl ⟨rfl,by simp⟩),h'.hi,len_snoc h.ht,h'.hf,h'.he,h'.hti,?_,h'.htf,h'.hte⟩
   intro x hx
   rcases mem_snoc hx with hx|rfl
   ·exact h'.htt x hx
   ·exact⟨hp _ (by simp),by simp,by simp⟩
  ·cases e
 rcases Classical.em (w=sFunc) with h3|h3
 ·subst h3
  rw[lS_func] at e
  split at e
  ·cases e
   refine⟨.inr (.inr ⟨rfl,by simp⟩),h'.hi,h'.ht,len_snoc h.hf,h'.he,h'.hti,h'.htt,?_,h'.hte⟩
   intro x hx
   rcases mem_snoc hx with hx|rfl
   ·exact h'.htf x hx
   ·exact⟨hp _ (by simp),hp _ (by simp),by simp,by simp,by simp,by simp⟩
  ·cases e
 rcases Classical.em (w=sEntry) with h4|h4
 ·subst h4
  rw[lS_entry] at e
  split at e
  ·cases e
   refine⟨.inl rfl,h'.hi,h'.ht,h'.hf,len_snoc h.he,h'.hti,h'.htt,h'.htf,?_⟩
   intro x hx
   rcases mem_snoc hx with hx|rfl
   ·exact h.hte x hx
   ·exact hp _ (by simp)
  ·cases e
 rcases Classical.em (w=sMethod) with h5|h5
 ·subst h5
  rw[lS_method] at e
  split at e
  ·split at e
   ·rename_i h0
    cases e
    have hT:q.2.2.1≠[]:=by
     rcases h.hof with e|⟨_,e⟩|⟨e,_⟩
     ·omega
     ·exact e
     ·omega
    refine⟨.inr (.inl ⟨h0,lstU_ne hT⟩),h'.hi,by rw[lstU_len];exact h'.ht,h'.hf,h'.he,h'.hti,?_,h'.htf,h'.hte⟩
    intro x hx
    rcases lstU_mem hx with hx|⟨y,hy,rfl⟩
    ·exact h'.htt x hx
    ·obtain⟨a1,a2,a3⟩:=h.htt y hy
     exact⟨a1,len_snoc a2,fun z hz=>(mem_snoc hz).elim (fun hz=>a3 z hz) (fun e=>by rw[e];exact⟨hp _ (by simp),hp _ (by simp)⟩)⟩
   ·cases e
  ·cases e
 rcases Classical.em (¬q.1=2) with h0|h0
 ·exact absurd e (by unfold lineS;simp only[h1,h2,h3,h4,h5,h0,if_false];simp)
 replace h0:=Classical.not_not.1 h0
 rcases Classical.em (w=sMakes) with h6|h6
 ·subst h6
  rw[lS_makes,if_pos h0] at e
  split at e
  ·cases e
   have hG:q.2.2.2.1≠[]:=by
    rcases h.hof with e|⟨e,_⟩|⟨_,e⟩
    ·omega
    ·omega
    ·exact e
   refine⟨.inr (.inr ⟨h0,lstU_ne hG⟩),h'.hi,h'.ht,by rw[lstU_len];exact h'.hf,h'.he,h'.hti,h'.htt,?_,h'.hte⟩
   intro x hx
   rcases lstU_mem hx with hx|⟨y,hy,rfl⟩
   ·exact h'.htf x hx
   ·obtain⟨a1,a2,a3,a4,a5,a6⟩:=h.htf y hy
    exact⟨a1,a2,by show y.Calls.length<=_;omega,len_snoc a4,a5,fun z hz=>(mem_snoc hz).elim (fun hz=>a6 z hz) (fun e=>by rw[e];exact hp _ (by simp))⟩
  ·cases e
 rcases Classical.em (w=sCall) with h7|h7
 ·subst h7
  rw[lS_call,if_pos h0] at e
  split at e
  ·rename_i c hc
   cases e
   exact fadd c h0 (cl1_ok hc hp)
  ·cases e
 rcases Classical.em (w=sDisp) with h8|h8
 ·subst h8
  rw[lS_disp,if_pos h0] at e
  split at e
  ·rename_i c hc
   cases e
   exact fadd c h0 (cl2_ok hc hp)
  ·cases e
 ·rw[lS_other ps q h1 h2 h3 h4 h5 h6 h7 h8] at e;cases e
def runS:List Tx->Nat->Sto->Nat ⊕ Sto
 |[],i,q=>.inr q
 |x::l,i,q=>match prt x with|[]=>runS l (i+1) q|w::ps=>(match lineS (w::ps) q with|some q'=>runS l (i+1) q'|none=>.inl i)
def G0:TGraph:=TGraph.mk [] [] [] []
theorem runS_inv:∀(l:List Tx) (i:Nat) (q q':Sto),Inv i q->(∀x,x∈l->x.length<=1000000)->runS l i q=.inr q'->Inv (i+l.length) q'
 |[],i,q,q',h,_,e=>by cases e;exact h
 |x::l,i,q,q',h,hx,e=>by
  have hx0:=hx x (List.mem_cons_self ..)
  have hr:=fun y hy=>hx y (List.mem_cons_of_mem _ hy)
  unfold runS at e
  rw[List.length_cons,show i+(l.length+1)=i+1+l.length by omega]
  split at e
  ·exact runS_inv l _ _ _ h.next hr e
  ·rename_i w ps hp
   split at e
   ·rename_i q1 h1
    refine runS_inv l _ _ _ (h.line ?_ ?_ h1) hr e
    ·exact fun y hy=>Nat.le_trans (prt_mem (s:=x) (by rw[hp];exact List.mem_cons_of_mem _ hy)) hx0
    ·have:=prt_len x;rw[hp,List.length_cons] at this;omega
   ·cases e
theorem M5_L1_eq(F:Nat)(k:Int->List TIface->List TType->List TFunc->List Tx->Option (TGraph×Int×Int)):∀(l:List Tx) (i:Nat) (q:Sto),Inv i q->i+l.length<=1000001->(∀x,x∈l->x.length<=1000000)->
  M5_L1 F k l (i:Int) q.1 q.2.1 q.2.2.1 q.2.2.2.1 q.2.2.2.2=(match runS l i q with | .inl j=>some (G0,(j:Int),6) | .inr q'=>k q'.1 q'.2.1 q'.2.2.1 q'.2.2.2.1 q'.2.2.2.2)
 |[],i,q,_,_,_=>rfl
 |x::l,i,q,h,hb,hx=>by
  have hx0:=hx x (List.mem_cons_self ..)
  have hr:=fun y hy=>hx y (List.mem_cons_of_mem _ hy)
  simp only[List.length_cons] at hb
  unfold M5_L1 runS
  simp only[jn_def]
  rw[M12_eq F x hx0,Option.bind_some]
  have e1:((i:Int)+1)=((i+1:Nat):Int):=rfl
  rw[e1]
  split
  ·rename_i hp
   have hl:(prt x).length=0\/(prt x).length≠0:=by omega
   cases hq:prt x with
   |nil=>rw[hq] at hp;simp at hp
   |cons w ps=>
    simp only[]
    have hw:=prt_len x
    rw[hq,List.length_cons] at hw
    have hm:∀y,y∈ps->y.length<=1000000:=fun y hy=>Nat.le_trans (prt_mem (s:=x) (by rw[hq];exact List.mem_cons_of_mem _ hy)) hx0
    obtain⟨y,hy,hs⟩:=M13_eq F w ps q h (by omega) (by omega)
    rw[hy,Option.bind_some]
    cases e:lineS (w::ps) q with
    |none=>rw[e] at hs;rw[if_pos (by simp only[] at hs;rw[hs];rfl)];rfl
    |some q'=>
     rw[e] at hs;simp only[] at hs;subst hs
     rw[if_neg (by simp)]
     exact M5_L1_eq F k l (i+1) q' (h.line hm (by omega) e) (by omega) hr
  ·rename_i hp
   cases hq:prt x with
   |nil=>exact M5_L1_eq F k l (i+1) q h.next (by omega) hr
   |cons w ps=>rw[hq] at hp;exfalso;apply hp;simp
end Go.Proofs.YtjofofmllnpkpaaGreatDoor
namespace Go.Pv
open Go
set_option linter.unusedVariables false
set_option linter.unusedSimpArgs false
theorem leT_total(a b:List UInt8):(leT a b||leT b a)=true:=by
 unfold leT
 rcases bl_tri a b with h|h|h
 ·simp[bl_asymm h]
 ·subst h;simp[bl_irrefl]
 ·simp[bl_asymm h]
theorem leT_anti{a b:List UInt8}(h:leT a b=true)(h':leT b a=true):a=b:=by
 unfold leT at h h'
 rcases bl_tri a b with g|g|g
 ·simp[g] at h'
 ·exact g
 ·simp[g] at h
theorem leT_trans(a b c:List UInt8)(h:leT a b=true)(h':leT b c=true):leT a c=true:=by
 unfold leT at *
 rcases bl_tri a b with g|g|g
 ·rcases bl_tri b c with k|k|k
  ·simp[bl_asymm (bl_trans g k)]
  ·subst k;simp[bl_asymm g]
  ·simp[k] at h'
 ·subst g;exact h'
 ·simp[g] at h
theorem leT_of_lt{a b:List UInt8}(h:Op.bytesLess a b=true):leT a b=true:=by simp[leT,bl_asymm h]
theorem lt_of_leT{a b:List UInt8}(h:leT a b=true)(hne:a≠b):Op.bytesLess a b=true:=by
 rcases bl_tri a b with g|g|g
 ·exact g
 ·exact absurd g hne
 ·simp[leT,g] at h
abbrev leK{α:Type}(a b:List UInt8×α):Bool:=leT a.1 b.1
theorem canonM_sorted{α:Type}(l:List (List UInt8×α)):(canonM l).Pairwise (fun a b=>leT a.1 b.1=true):=
 List.pairwise_mergeSort (le:=leK) (fun a b c=>leT_trans a.1 b.1 c.1) (fun a b=>leT_total a.1 b.1) l
structure SetOk(m:List (List UInt8×Bool)):Prop where
 srt:(m.map (·.1)).Pairwise (fun a b=>Op.bytesLess a b=true)
 all:∀p,p∈m->p.2=true
theorem SetOk.nil:SetOk []:=⟨by simp,by simp⟩
theorem nodup_lt{l:List (List UInt8)}(h:l.Pairwise (fun a b=>Op.bytesLess a b=true)):l.Nodup:=h.imp bl_ne
theorem lt_of_sorted{l:List (List UInt8)}(h:l.Pairwise (fun a b=>leT a b=true))(hn:l.Nodup):l.Pairwise (fun a b=>Op.bytesLess a b=true):=by
 induction l with
 |nil=>exact .nil
 |cons x l ih=>
  rw[List.pairwise_cons] at h ⊢
  rw[List.nodup_cons] at hn
  exact⟨fun y hy=>lt_of_leT (h.1 y hy) (fun e=>hn.1 (by rw[e];exact hy)),ih h.2 hn.2⟩
theorem mput_keys{α:Type}(x:List UInt8)(v:α):∀m:List (List UInt8×α),((mput m x v).map (·.1))=if x∈m.map (·.1) then m.map (·.1) else m.map (·.1)++[x]
 |[]=>by simp[mput]
 |p::m=>by
  simp only[mput]
  by_cases h:p.1=x
  ·rw[if_pos h];simp[h]
  ·rw[if_neg h,List.map_cons,mput_keys x v m]
   by_cases hx:x∈m.map (·.1)
   ·rw[if_pos hx,if_pos (by simp at hx ⊢;exact .inr hx)];rfl
   ·rw[if_neg hx,if_neg (by simp at hx ⊢;exact⟨fun e=>h e.symm,hx⟩)];rfl
theorem mput_all{α:Type}(x:List UInt8)(v:α):∀(m:List (List UInt8×α)) (p:List UInt8×α),p∈mput m x v->p=(x,v)\/p∈m
 |[],p,h=>by simp[mput] at h;exact .inl h
 |q::m,p,h=>by
  simp only[mput] at h
  split at h
  ·rcases List.mem_cons.1 h with h|h
   ·exact .inl h
   ·exact .inr (List.mem_cons_of_mem _ h)
  ·rcases List.mem_cons.1 h with h|h
   ·exact .inr (by rw[h];exact List.mem_cons_self)
   ·rcases mput_all x v m p h with h|h
    ·exact .inl h
    ·exact .inr (List.mem_cons_of_mem _ h)
theorem ins_srt{α:Type}{m:List (List UInt8×α)}(x:List UInt8)(v:α)(h:(m.map (·.1)).Pairwise (fun a b=>Op.bytesLess a b=true)):((canonM (mput m x v)).map (·.1)).Pairwise (fun a b=>Op.bytesLess a b=true):=by
 refine lt_of_sorted ?_ ?_
 ·rw[List.pairwise_map];exact canonM_sorted _
 ·refine((canonM_perm (mput m x v)).map (·.1)).nodup_iff.2 ?_
  rw[mput_keys]
  split
  ·exact nodup_lt h
  ·rename_i hx
   rw[List.nodup_append]
   exact⟨nodup_lt h,by simp,fun a ha b hb e=>hx (by simp at hb;rw[<-hb,<-e];exact ha)⟩
theorem SetOk.ins{m:List (List UInt8×Bool)}(h:SetOk m)(x:List UInt8):SetOk (canonM (mput m x true)):=by
 refine⟨ins_srt x true h.srt,fun p hp=>?_⟩
 rcases mput_all x true m p ((canonM_perm _).mem_iff.1 hp) with e|e
 ·rw[e]
 ·exact h.all p e
theorem mget_mem{α:Type}:∀(m:List (List UInt8×α)) (x:List UInt8),(mget m x).isSome=true<->x∈m.map (·.1)
 |[],x=>by simp[mget]
 |p::m,x=>by
  simp only[mget,List.map_cons,List.mem_cons]
  by_cases h:p.1=x
  ·simp[h]
  ·rw[if_neg h,mget_mem m x]
   exact⟨.inr,fun q=>q.elim (fun e=>absurd e.symm h) (fun h=>h)⟩
theorem mget_in{α:Type}:∀(m:List (List UInt8×α)) (x:List UInt8) (v:α),mget m x=some v->(x,v)∈m
 |[],x,v,h=>by simp[mget] at h
 |p::m,x,v,h=>by
  simp only[mget] at h
  split at h
  ·rename_i e;simp at h;subst e;subst h;exact List.mem_cons_self
  ·exact List.mem_cons_of_mem _ (mget_in m x v h)
theorem SetOk.get{m:List (List UInt8×Bool)}(h:SetOk m)(x:List UInt8):(mget m x).getD false=true<->x∈m.map (·.1):=by
 rw[<-mget_mem]
 cases hg:mget m x with
 |none=>simp
 |some v=>simp;exact h.all _ (mget_in m x v hg)
def srtT(l:List (List UInt8)):List (List UInt8):=l.mergeSort leT
theorem srtT_perm(l:List (List UInt8)):(srtT l).Perm l:=List.mergeSort_perm _ _
theorem srtT_srt(l:List (List UInt8)):(srtT l).Pairwise (fun a b=>leT a b=true):=List.pairwise_mergeSort leT_trans leT_total l
theorem srt_uniq{l l':List (List UInt8)}(h:l.Pairwise (fun a b=>leT a b=true))(h':l'.Pairwise (fun a b=>leT a b=true))(hp:l.Perm l'):l=l':=
 List.Perm.eq_of_pairwise (le:=fun a b=>leT a b=true) (fun a b _ _ g g'=>leT_anti g g') h h' hp
theorem srtT_id{l:List (List UInt8)}(h:l.Pairwise (fun a b=>Op.bytesLess a b=true)):srtT l=l:=srt_uniq (srtT_srt l) (h.imp leT_of_lt) (srtT_perm l)
theorem bl_lt(a b:List UInt8):(a<b)<->Op.bytesLess a b=true:=by
 induction a generalizing b with
 |nil=>cases b<;>simp[Op.bytesLess]
 |cons x a ih=>
  cases b with
  |nil=>simp[Op.bytesLess]
  |cons y b=>rw[bl_cons,List.cons_lt_cons_iff,ih];simp
theorem le_leT(a b:List UInt8):decide (a<=b)=leT a b:=by
 unfold leT
 rw[<-Bool.not_inj_iff,Bool.not_not]
 cases h:Op.bytesLess b a
 ·simp only[Bool.not_eq_eq_eq_not,Bool.not_false,decide_eq_true_eq]
  exact fun hh=>by rw[(bl_lt b a).1 hh] at h;simp at h
 ·simp only[Bool.not_eq_eq_eq_not,Bool.not_true,decide_eq_false_iff_not]
  exact fun hh=>hh ((bl_lt b a).2 h)
theorem tsort_eq(l:List (List UInt8)):tsort l=srtT l:=by
 unfold tsort srtT
 congr 1
 funext a b
 exact le_leT a b
end Go.Pv
namespace Go.Proofs.YtjofofmllnpkpaaGreatDoor
open Go Go.Pv
set_option linter.unusedVariables false
set_option linter.unusedSimpArgs false
set_option maxRecDepth 100000
abbrev Srt(g:Int->Tx)(l:List Int):Prop:=l.Pairwise (fun x y=>leT (g x) (g y)=true)
def pick{α:Type}(xs:List α)(l:List Int):List α:=l.filterMap (idx xs)
def OrdOf{α:Type}(nm:α->Tx)(xs ys:List α):Prop:=ys.Perm xs/\ys.Pairwise (fun x y=>leT (nm x) (nm y)=true)
theorem OrdOf.uniq{α:Type}{nm:α->Tx}{xs xs' ys zs:List α}(h1:OrdOf nm xs ys)(h2:OrdOf nm xs' zs)(hp:xs.Perm xs')(hd:(xs.map nm).Nodup):ys=zs:=by
 refine List.Perm.eq_of_pairwise (le:=fun x y=>leT (nm x) (nm y)=true) ?_ h1.2 h2.2 (h1.1.trans (hp.trans h2.1.symm))
 intro a b ha hb g g'
 have e:=leT_anti g g'
 have ha':=h1.1.mem_iff.1 ha
 have hb':=hp.mem_iff.2 (h2.1.mem_iff.1 hb)
 have hd':=List.pairwise_map.1 hd
 obtain⟨i,hi,rfl⟩:=List.mem_iff_getElem.1 ha'
 obtain⟨j,hj,rfl⟩:=List.mem_iff_getElem.1 hb'
 have:=List.pairwise_iff_getElem.1 hd'
 rcases Nat.lt_trichotomy i j with h|h|h
 ·exact absurd e (this i j hi hj h)
 ·subst h;rfl
 ·exact absurd e.symm (this j i hj hi h)
def smM(l:List TMethod):List TMethod:=l.mergeSort (fun a b=>leT a.Name b.Name)
theorem smM_ord(l:List TMethod):OrdOf (·.Name) l (smM l):=⟨List.mergeSort_perm _ _,List.pairwise_mergeSort (fun a b c=>leT_trans a.Name b.Name c.Name) (fun a b=>leT_total a.Name b.Name) l⟩
def sT(t:TType):TType:=TType.mk t.Name (smM t.Methods)
def sF(f:TFunc):TFunc:=TFunc.mk f.Name f.Component f.Calls (srtT f.Makes)
theorem M42_eq(F:Nat)(a b:Tx):M42 F a b=some (cmpS a b):=by
 unfold M42 M77 cmpS
 simp only[Option.bind_some,beq_self_eq_true,Bool.not_true,Bool.false_eq_true,if_false,bl_gt]
 split
 ·rfl
 ·split<;>rfl
theorem M41_eq(F:Nat)(x y:TMethod):M41 F x y=some (cmpS x.Name y.Name):=by unfold M41;rw[M42_eq];rfl
theorem leT_nt{a b c:Tx}(h:Op.bytesLess a b=false)(g:Op.bytesLess b c=false):Op.bytesLess a c=false:=by
 have:=leT_trans c b a (by simp[leT,g]) (by simp[leT,h])
 simpa[leT] using this
def mlt(a b:TMethod):Bool:=Op.bytesLess a.Name b.Name
theorem morder:Go.Pv.Ord (fun x y:TMethod=>some (cmpS x.Name y.Name)) mlt where
 cmp:=fun x y=>⟨_,rfl,by rw[Bool.eq_iff_iff,decide_eq_true_eq];exact cmpS_lt⟩
 irr:=fun x=>bl_irrefl _
 tr:=fun x y z h g=>bl_trans h g
 wk:=fun x y z h g=>leT_nt h g
theorem E109_L2(F:Nat)(a:Int)(k:List TMethod->Option (List TMethod)):∀(n:Nat) (j:Int) (l:List TMethod),M109_L2 F a k n j l=insG_L2 (fun x y=>some (cmpS x.Name y.Name)) F a k n j l:=by
 intro n
 induction n with
 |zero=>intros;rfl
 |succ n ih=>intro j l;simp only[M109_L2,insG_L2,ih,M41_eq]
theorem E109_L1(F:Nat)(a b:Int):∀(n:Nat) (j:Int) (l:List TMethod),M109_L1 F a b n j l=insG_L1 (fun x y=>some (cmpS x.Name y.Name)) F a b n j l:=by
 intro n
 induction n with
 |zero=>intros;rfl
 |succ n ih=>intro j l;simp only[M109_L1,insG_L1,ih,E109_L2]
theorem E109(F:Nat)(a b:Int)(l:List TMethod):M109 F a b l=insG (fun x y=>some (cmpS x.Name y.Name)) F a b l:=by unfold M109 insG;rw[E109_L1]
theorem E174_L1(F:Nat)(a b:Int):∀(n:Nat) (j:Int) (l:List TMethod),M174_L1 F a b n j l=swpG_L1 F a b n j l:=by
 intro n
 induction n with
 |zero=>intros;rfl
 |succ n ih=>intro j l;simp only[M174_L1,swpG_L1,ih]
theorem E174(F:Nat)(a b n:Int)(l:List TMethod):M174 F a b n l=swpG F a b n l:=by unfold M174 swpG;rw[E174_L1]
theorem E139_L1(F:Nat)(m:Int)(k:Int->List TMethod->Option (List TMethod)):∀(n:Nat) (i j:Int) (l:List TMethod),M139_L1 F m k n i j l=rotG_L1 F m k n i j l:=by
 intro n
 induction n with
 |zero=>intros;rfl
 |succ n ih=>intro i j l;simp only[M139_L1,rotG_L1,ih,E174]
theorem E139(F:Nat)(a m b:Int)(l:List TMethod):M139 F a m b l=rotG F a m b l:=by unfold M139 rotG;simp only[E139_L1,E174]
theorem E110_L2(F:Nat)(e:Int)(k:List TMethod->Option (List TMethod)):∀(n:Nat) (j:Int) (l:List TMethod),M110_L2 F e k n j l=symG_L2 F e k n j l:=by
 intro n
 induction n with
 |zero=>intros;rfl
 |succ n ih=>intro j l;simp only[M110_L2,symG_L2,ih]
theorem E110_L4(F:Nat)(e:Int)(k:List TMethod->Option (List TMethod)):∀(n:Nat) (j:Int) (l:List TMethod),M110_L4 F e k n j l=symG_L4 F e k n j l:=by
 intro n
 induction n with
 |zero=>intros;rfl
 |succ n ih=>intro j l;simp only[M110_L4,symG_L4,ih]
theorem E110_L1(F:Nat)(a:Int)(l:List TMethod)(k:Int->Option (List TMethod)):∀(n:Nat) (i j:Int),M110_L1 F a l k n i j=symG_L1 (fun x y=>some (cmpS x.Name y.Name)) F a l k n i j:=by
 intro n
 induction n with
 |zero=>intros;rfl
 |succ n ih=>intro i j;simp only[M110_L1,symG_L1,ih,M41_eq]
theorem E110_L3(F:Nat)(a:Int)(l:List TMethod)(k:Int->Option (List TMethod)):∀(n:Nat) (i j:Int),M110_L3 F a l k n i j=symG_L3 (fun x y=>some (cmpS x.Name y.Name)) F a l k n i j:=by
 intro n
 induction n with
 |zero=>intros;rfl
 |succ n ih=>intro i j;simp only[M110_L3,symG_L3,ih,M41_eq]
theorem E110_L5(F:Nat)(a m b:Int)(l:List TMethod)(k:Int->Option (List TMethod)):∀(n:Nat) (i j:Int),M110_L5 F a m b l k n i j=symG_L5 (fun x y=>some (cmpS x.Name y.Name)) F a m b l k n i j:=by
 intro n
 induction n with
 |zero=>intros;rfl
 |succ n ih=>intro i j;simp only[M110_L5,symG_L5,ih,M41_eq]
theorem E110:∀(F:Nat) (a m b:Int) (l:List TMethod),M110 F a m b l=symG (fun x y=>some (cmpS x.Name y.Name)) F a m b l:=by
 intro F
 induction F with
 |zero=>intros;rfl
 |succ F ih=>intro a m b l;simp only[M110,symG,M110_B,symG_B,ih,E110_L1,E110_L2,E110_L3,E110_L4,E110_L5,E139]
theorem E76_L3(F:Nat)(a n:Int)(k:Int->List TMethod->Option (List TMethod)):∀(f:Nat) (i j:Int) (l:List TMethod),M76_L3 F a n k f i j l=stbG_L3 (fun x y=>some (cmpS x.Name y.Name)) F a n k f i j l:=by
 intro f
 induction f with
 |zero=>intros;rfl
 |succ f ih=>intro i j l;simp only[M76_L3,stbG_L3,ih,E110]
theorem E76_L2(F:Nat)(a:Int):∀(f:Nat) (i:Int) (l:List TMethod),M76_L2 F a f i l=stbG_L2 (fun x y=>some (cmpS x.Name y.Name)) F a f i l:=by
 intro f
 induction f with
 |zero=>intros;rfl
 |succ f ih=>intro i l;simp only[M76_L2,stbG_L2,ih,E110,E76_L3]
theorem E76_L1(F:Nat)(a:Int)(k:Int->List TMethod->Option (List TMethod)):∀(f:Nat) (i j:Int) (l:List TMethod),M76_L1 F a k f i j l=stbG_L1 (fun x y=>some (cmpS x.Name y.Name)) F a k f i j l:=by
 intro f
 induction f with
 |zero=>intros;rfl
 |succ f ih=>intro i j l;simp only[M76_L1,stbG_L1,ih,E109]
theorem stb76(F:Nat)(n:Int)(l:List TMethod):M76 F n l=stbG (fun x y=>some (cmpS x.Name y.Name)) F n l:=by
 unfold M76 stbG;simp only[E76_L1,E76_L2,E109]
theorem M40_eq(F:Nat)(l:List TMethod)(hl:l.length<=1000001)(hF:3000000<=F):∃y,M40 F l=some y/\OrdOf (·.Name) l y:=by
 unfold M40
 rw[stb76]
 obtain⟨R,r1,r2,r3⟩:=stbG_eq morder F l (by omega) (by omega)
 rw[r1,Option.bind_some,if_pos r3.length_eq]
 exact⟨R,rfl,r3,r2.imp fun {a b} h=>by unfold mlt at h;simp[leT,h]⟩
def adj:List Tx->Bool
 |a::b::l=>b==a||adj (b::l)
 |_=>false
theorem adj_short{l:List Tx}(h:l.length<=1):adj l=false:=by
 rcases l with _|⟨a,_|⟨b,l⟩⟩
 ·rfl
 ·rfl
 ·simp at h
theorem adj_nodup:∀{l:List Tx},l.Pairwise (fun a b=>leT a b=true)->(adj l=true<->¬l.Nodup)
 |[],_=>by simp[adj]
 |[a],_=>by simp[adj]
 |a::b::l,h=>by
  have h1:=List.pairwise_cons.1 h
  have h2:=List.pairwise_cons.1 h1.2
  rw[adj,Bool.or_eq_true,adj_nodup h1.2,List.nodup_cons (a:=a)]
  have:b=a<->a∈b::l:=by
   constructor
   ·rintro rfl;exact List.mem_cons_self ..
   ·intro hm
    rcases List.mem_cons.1 hm with e|hm
    ·exact e.symm
    ·exact leT_anti (h2.1 a hm) (h1.1 b (List.mem_cons_self ..))
  rw[beq_iff_eq,this]
  by_cases g:a∈b::l<;>simp[g]
theorem nmE:True:=trivial
theorem drop_two{α:Type}{nm:α->Tx}{a:List α}{i:Nat}(_:True)(h1:1<=i)(h:i<a.length):(a.map nm).drop (i - 1)=nm a[i - 1]::nm a[i]::(a.map nm).drop (i+1):=by
 have e1:(a.map nm).drop (i - 1)=(a.map nm)[i - 1]'(by simp;omega)::(a.map nm).drop (i - 1+1):=List.drop_eq_getElem_cons (by simp;omega)
 have e2:(a.map nm).drop i=(a.map nm)[i]'(by simp;omega)::(a.map nm).drop (i+1):=List.drop_eq_getElem_cons (by simp;omega)
 rw[e1,show i - 1+1=i by omega,e2]
 simp
theorem drop_one_at{α:Type}{nm:α->Tx}{a:List α}{i:Nat}(_:True)(h:i<a.length):(a.map nm).drop i=nm a[i]::(a.map nm).drop (i+1):=by
 have e2:(a.map nm).drop i=(a.map nm)[i]'(by simp;omega)::(a.map nm).drop (i+1):=List.drop_eq_getElem_cons (by simp;omega)
 rw[e2]
 simp
theorem M43_L1_eq(F:Nat)(a:List TMethod)(ha:a.length<=1000001)(k:Option Bool):∀(n i:Nat),1<=i->1<=n->a.length<n+i->M43_L1 F a k n (i:Int)=if adj ((a.map (·.Name)).drop (i - 1))=true then some true else k
 |0,i,h1,h0,h2=>by omega
 |n+1,i,h1,h0,h2=>by
  unfold M43_L1
  by_cases h:i<a.length
  ·rw[if_pos (by simp;omega),idx_nat h,w64m h1 (by omega),idx_nat (show i - 1<a.length by omega)]
   simp only[M44,Option.bind_some]
   have e:(a.map (·.Name)).drop (i - 1)=a[i - 1].Name::a[i].Name::(a.map (·.Name)).drop (i+1):=drop_two nmE h1 h
   rw[e,adj]
   by_cases hc:(a[i].Name==a[i - 1].Name)=true
   ·rw[if_pos hc,if_pos (by rw[hc];rfl)]
   ·rw[if_neg hc,w64p (by omega),M43_L1_eq F a ha k n (i+1) (by omega) (by omega) (by omega),show i+1 - 1=i from rfl,drop_one_at nmE h]
    simp only[Bool.not_eq_true] at hc
    rw[hc,Bool.false_or]
  ·rw[if_neg (by simp;omega),if_neg]
   rw[adj_short (by rw[List.length_drop,List.length_map];omega)]
   simp
theorem M43_eq(F:Nat)(a:List TMethod)(ha:a.length<=1000001)(hF:1000010<=F):M43 F a=some (adj (a.map (·.Name))):=by
 unfold M43
 rw[jn_def,show(1:Int)=((1:Nat):Int) from rfl,M43_L1_eq F a ha _ F 1 (Nat.le_refl _) (by omega) (by omega),List.drop_zero]
 cases adj (a.map (·.Name))<;>rfl
theorem M57_L1_eq(F:Nat)(a:List TIface)(ha:a.length<=1000001)(k:Option Bool):∀(n i:Nat),1<=i->1<=n->a.length<n+i->M57_L1 F a k n (i:Int)=if adj ((a.map (·.Name)).drop (i - 1))=true then some true else k
 |0,i,h1,h0,h2=>by omega
 |n+1,i,h1,h0,h2=>by
  unfold M57_L1
  by_cases h:i<a.length
  ·rw[if_pos (by simp;omega),idx_nat h,w64m h1 (by omega),idx_nat (show i - 1<a.length by omega)]
   simp only[M49,Option.bind_some]
   have e:(a.map (·.Name)).drop (i - 1)=a[i - 1].Name::a[i].Name::(a.map (·.Name)).drop (i+1):=drop_two nmE h1 h
   rw[e,adj]
   by_cases hc:(a[i].Name==a[i - 1].Name)=true
   ·rw[if_pos hc,if_pos (by rw[hc];rfl)]
   ·rw[if_neg hc,w64p (by omega),M57_L1_eq F a ha k n (i+1) (by omega) (by omega) (by omega),show i+1 - 1=i from rfl,drop_one_at nmE h]
    simp only[Bool.not_eq_true] at hc
    rw[hc,Bool.false_or]
  ·rw[if_neg (by simp;omega),if_neg]
   rw[adj_short (by rw[List.length_drop,List.length_map];omega)]
   simp
theorem M57_eq(F:Nat)(a:List TIface)(ha:a.length<=1000001)(hF:1000010<=F):M57 F a=some (adj (a.map (·.Name))):=by
 unfold M57
 rw[jn_def,show(1:Int)=((1:Nat):Int) from rfl,M57_L1_eq F a ha _ F 1 (Nat.le_refl _) (by omega) (by omega),List.drop_zero]
 cases adj (a.map (·.Name))<;>rfl
theorem M58_L1_eq(F:Nat)(a:List TType)(ha:a.length<=1000001)(k:Option Bool):∀(n i:Nat),1<=i->1<=n->a.length<n+i->M58_L1 F a k n (i:Int)=if adj ((a.map (·.Name)).drop (i - 1))=true then some true else k
 |0,i,h1,h0,h2=>by omega
 |n+1,i,h1,h0,h2=>by
  unfold M58_L1
  by_cases h:i<a.length
  ·rw[if_pos (by simp;omega),idx_nat h,w64m h1 (by omega),idx_nat (show i - 1<a.length by omega)]
   simp only[M52,Option.bind_some]
   have e:(a.map (·.Name)).drop (i - 1)=a[i - 1].Name::a[i].Name::(a.map (·.Name)).drop (i+1):=drop_two nmE h1 h
   rw[e,adj]
   by_cases hc:(a[i].Name==a[i - 1].Name)=true
   ·rw[if_pos hc,if_pos (by rw[hc];rfl)]
   ·rw[if_neg hc,w64p (by omega),M58_L1_eq F a ha k n (i+1) (by omega) (by omega) (by omega),show i+1 - 1=i from rfl,drop_one_at nmE h]
    simp only[Bool.not_eq_true] at hc
    rw[hc,Bool.false_or]
  ·rw[if_neg (by simp;omega),if_neg]
   rw[adj_short (by rw[List.length_drop,List.length_map];omega)]
   simp
theorem M58_eq(F:Nat)(a:List TType)(ha:a.length<=1000001)(hF:1000010<=F):M58 F a=some (adj (a.map (·.Name))):=by
 unfold M58
 rw[jn_def,show(1:Int)=((1:Nat):Int) from rfl,M58_L1_eq F a ha _ F 1 (Nat.le_refl _) (by omega) (by omega),List.drop_zero]
 cases adj (a.map (·.Name))<;>rfl
theorem M59_L1_eq(F:Nat)(a:List TFunc)(ha:a.length<=1000001)(k:Option Bool):∀(n i:Nat),1<=i->1<=n->a.length<n+i->M59_L1 F a k n (i:Int)=if adj ((a.map (·.Name)).drop (i - 1))=true then some true else k
 |0,i,h1,h0,h2=>by omega
 |n+1,i,h1,h0,h2=>by
  unfold M59_L1
  by_cases h:i<a.length
  ·rw[if_pos (by simp;omega),idx_nat h,w64m h1 (by omega),idx_nat (show i - 1<a.length by omega)]
   simp only[M55,Option.bind_some]
   have e:(a.map (·.Name)).drop (i - 1)=a[i - 1].Name::a[i].Name::(a.map (·.Name)).drop (i+1):=drop_two nmE h1 h
   rw[e,adj]
   by_cases hc:(a[i].Name==a[i - 1].Name)=true
   ·rw[if_pos hc,if_pos (by rw[hc];rfl)]
   ·rw[if_neg hc,w64p (by omega),M59_L1_eq F a ha k n (i+1) (by omega) (by omega) (by omega),show i+1 - 1=i from rfl,drop_one_at nmE h]
    simp only[Bool.not_eq_true] at hc
    rw[hc,Bool.false_or]
  ·rw[if_neg (by simp;omega),if_neg]
   rw[adj_short (by rw[List.length_drop,List.length_map];omega)]
   simp
theorem M59_eq(F:Nat)(a:List TFunc)(ha:a.length<=1000001)(hF:1000010<=F):M59 F a=some (adj (a.map (·.Name))):=by
 unfold M59
 rw[jn_def,show(1:Int)=((1:Nat):Int) from rfl,M59_L1_eq F a ha _ F 1 (Nat.le_refl _) (by omega) (by omega),List.drop_zero]
 cases adj (a.map (·.Name))<;>rfl
theorem M46_L1_eq(F:Nat)(a:List Tx)(ha:a.length<=1000001)(k:Option Bool):∀(n i:Nat),1<=i->1<=n->a.length<n+i->M46_L1 F a k n (i:Int)=if adj ((a.map (fun x=>x)).drop (i - 1))=true then some true else k
 |0,i,h1,h0,h2=>by omega
 |n+1,i,h1,h0,h2=>by
  unfold M46_L1
  by_cases h:i<a.length
  ·rw[if_pos (by simp;omega),idx_nat h,w64m h1 (by omega),idx_nat (show i - 1<a.length by omega)]
   simp only[M47,Option.bind_some]
   have e:(a.map (fun x=>x)).drop (i - 1)=a[i - 1]::a[i]::(a.map (fun x=>x)).drop (i+1):=drop_two nmE h1 h
   rw[e,adj]
   by_cases hc:(a[i]==a[i - 1])=true
   ·rw[if_pos hc,if_pos (by rw[hc];rfl)]
   ·rw[if_neg hc,w64p (by omega),M46_L1_eq F a ha k n (i+1) (by omega) (by omega) (by omega),show i+1 - 1=i from rfl,drop_one_at nmE h]
    simp only[Bool.not_eq_true] at hc
    rw[hc,Bool.false_or]
  ·rw[if_neg (by simp;omega),if_neg]
   rw[adj_short (by rw[List.length_drop,List.length_map];omega)]
   simp
theorem M46_eq(F:Nat)(a:List Tx)(ha:a.length<=1000001)(hF:1000010<=F):M46 F a=some (adj (a.map (fun x=>x))):=by
 unfold M46
 rw[jn_def,show(1:Int)=((1:Nat):Int) from rfl,M46_L1_eq F a ha _ F 1 (Nat.le_refl _) (by omega) (by omega),List.drop_zero]
 cases adj (a.map (fun x=>x))<;>rfl
theorem M45_eq(F:Nat)(l:List Tx)(h:l.length<=1000001):M45 F l=some (srtT l):=by unfold M45;rw[if_pos (by omega),tsort_eq]
theorem nilq_same{α:Type}{l:List α}{k:Bool->Option (List α)}(h:k true=some [])(h':k false=some l):nilq l.length k=some l:=by
 unfold nilq
 split
 ·exact h'
 ·rename_i hn
  have:l=[]:=List.length_eq_zero_iff.1 (Classical.not_not.1 hn)
  subst this
  rw[h,h',if_pos rfl]
theorem M82_eq(F:Nat)(l:List Tx)(h:l.length<=1000001):M82 F l=some l:=nilq_same (by simp) (by simp;omega)
theorem M85_eq(F:Nat)(l:List TMethod)(h:l.length<=1000001):M85 F l=some l:=nilq_same (by simp) (by simp;omega)
theorem M88_eq(F:Nat)(l:List TCall)(h:l.length<=1000001):M88 F l=some l:=nilq_same (by simp) (by simp;omega)
theorem M50_eq(F:Nat)(x:TIface)(h:x.Methods.length<=1000001):M50 F x=some x:=by unfold M50;rw[M82_eq F _ h];rfl
theorem M53_eq(F:Nat)(x:TType)(h:x.Methods.length<=1000001):M53 F x=some x:=by unfold M53;rw[M85_eq F _ h];rfl
theorem M56_eq(F:Nat)(x:TFunc)(h:x.Calls.length<=1000001)(h':x.Makes.length<=1000001):M56 F x=some x:=by unfold M56;rw[M88_eq F _ h,Option.bind_some,M82_eq F _ h'];rfl
theorem srtQ_ord{α:Type}{nm:α->Tx}{cmp:α->α->Option Int}(hc:∀x y,cmp x y=some (cmpS (nm x) (nm y))){l:List α}(hl:l.length<=1000001):∃s,srtQ cmp l=some s/\OrdOf nm l s:=by
 have hlt:∀x y,cltM cmp x y=Op.bytesLess (nm x) (nm y):=by
  intro x y
  unfold cltM
  rw[hc]
  rw[Bool.eq_iff_iff,decide_eq_true_eq];exact cmpS_lt
 have h1:swoM cmp l=true:=by
  unfold swoM
  refine List.all_eq_true.2 fun x _=>?_
  rw[Bool.and_eq_true]
  refine⟨by rw[hlt,bl_irrefl];rfl,List.all_eq_true.2 fun y _=>?_⟩
  rw[Bool.and_eq_true]
  refine⟨by rw[hc];rfl,List.all_eq_true.2 fun z _=>?_⟩
  rw[hlt,hlt,hlt]
  cases e1:Op.bytesLess (nm x) (nm y)<;>cases e2:Op.bytesLess (nm y) (nm z)
  ·rw[leT_nt e1 e2];rfl
  ·simp
  ·simp
  ·rw[bl_trans e1 e2];rfl
 obtain⟨s,hs⟩:=srtQ_some h1 (show l.length<4611686018427387904 by omega)
 obtain⟨p,q⟩:=srtQ_both hs
 exact⟨s,hs,p,q.imp fun {a b} h=>by rw[hlt] at h;simp[leT,h]⟩
theorem M48_L1_eq(F:Nat)(k:List TIface->Option (List TIface)):∀(l acc:List TIface),(∀x,x∈l->x.Methods.length<=1000001)->acc.length+l.length<=1000000000->M48_L1 F k l acc=k (acc++l)
 |[],acc,_,_=>by simp[M48_L1]
 |x::l,acc,h,hl=>by
  simp only[List.length_cons] at hl
  have h0:=h x (List.mem_cons_self ..)
  unfold M48_L1
  rw[M50_eq F x h0,Option.bind_some,if_pos (by simp;omega),M48_L1_eq F k l _ (fun z hz=>h z (List.mem_cons_of_mem _ hz)) (by simp;omega),List.append_assoc];rfl
theorem M81_eq(F:Nat)(x y:TIface):M81 F x y=some (cmpS x.Name y.Name):=by unfold M81 M49;simp only[Option.bind_some,M42_eq]
theorem M48_eq(F:Nat)(l:List TIface)(h:∀x,x∈l->x.Methods.length<=1000001)(hl:l.length<=1000001):∃s,M48 F l=some s/\OrdOf (·.Name) l s:=by
 obtain⟨s,e,o⟩:=srtQ_ord (nm:=fun x:TIface=>x.Name) (cmp:=fun x y=>M81 F x y) (fun x y=>M81_eq F x y) hl
 unfold M48 M80
 rw[jn_def,M48_L1_eq F _ _ _ h (by simp;omega),List.nil_append,e,Option.bind_some,if_pos o.1.length_eq]
 exact⟨s,rfl,o⟩
theorem M51_L1_eq(F:Nat)(k:List TType->Option (List TType)):∀(l acc:List TType),(∀x,x∈l->x.Methods.length<=1000001)->acc.length+l.length<=1000000000->M51_L1 F k l acc=k (acc++l)
 |[],acc,_,_=>by simp[M51_L1]
 |x::l,acc,h,hl=>by
  simp only[List.length_cons] at hl
  have h0:=h x (List.mem_cons_self ..)
  unfold M51_L1
  rw[M53_eq F x h0,Option.bind_some,if_pos (by simp;omega),M51_L1_eq F k l _ (fun z hz=>h z (List.mem_cons_of_mem _ hz)) (by simp;omega),List.append_assoc];rfl
theorem M84_eq(F:Nat)(x y:TType):M84 F x y=some (cmpS x.Name y.Name):=by unfold M84 M52;simp only[Option.bind_some,M42_eq]
theorem M51_eq(F:Nat)(l:List TType)(h:∀x,x∈l->x.Methods.length<=1000001)(hl:l.length<=1000001):∃s,M51 F l=some s/\OrdOf (·.Name) l s:=by
 obtain⟨s,e,o⟩:=srtQ_ord (nm:=fun x:TType=>x.Name) (cmp:=fun x y=>M84 F x y) (fun x y=>M84_eq F x y) hl
 unfold M51 M83
 rw[jn_def,M51_L1_eq F _ _ _ h (by simp;omega),List.nil_append,e,Option.bind_some,if_pos o.1.length_eq]
 exact⟨s,rfl,o⟩
theorem M54_L1_eq(F:Nat)(k:List TFunc->Option (List TFunc)):∀(l acc:List TFunc),(∀x,x∈l->x.Calls.length<=1000001/\x.Makes.length<=1000001)->acc.length+l.length<=1000000000->M54_L1 F k l acc=k (acc++l)
 |[],acc,_,_=>by simp[M54_L1]
 |x::l,acc,h,hl=>by
  simp only[List.length_cons] at hl
  have h0:=h x (List.mem_cons_self ..)
  unfold M54_L1
  rw[M56_eq F x h0.1 h0.2,Option.bind_some,if_pos (by simp;omega),M54_L1_eq F k l _ (fun z hz=>h z (List.mem_cons_of_mem _ hz)) (by simp;omega),List.append_assoc];rfl
theorem M87_eq(F:Nat)(x y:TFunc):M87 F x y=some (cmpS x.Name y.Name):=by unfold M87 M55;simp only[Option.bind_some,M42_eq]
theorem M54_eq(F:Nat)(l:List TFunc)(h:∀x,x∈l->x.Calls.length<=1000001/\x.Makes.length<=1000001)(hl:l.length<=1000001):∃s,M54 F l=some s/\OrdOf (·.Name) l s:=by
 obtain⟨s,e,o⟩:=srtQ_ord (nm:=fun x:TFunc=>x.Name) (cmp:=fun x y=>M87 F x y) (fun x y=>M87_eq F x y) hl
 unfold M54 M86
 rw[jn_def,M54_L1_eq F _ _ _ h (by simp;omega),List.nil_append,e,Option.bind_some,if_pos o.1.length_eq]
 exact⟨s,rfl,o⟩
end Go.Proofs.YtjofofmllnpkpaaGreatDoor
