/- Part of the proof: TP1, TP2, TP3, TP4, XR, TP5, TP6. -/
import Derived.Test.YtjofofmllnpkpaaGreatDoorRTRC
import Derived.Test.YtjofofmllnpkpaaGreatDoorRPvY
import Derived.Test.YtjofofmllnpkpaaGreatDoorRDC
namespace Go.Proofs.YtjofofmllnpkpaaGreatDoor
open Go Go.Pv
set_option linter.unusedVariables false
set_option linter.unusedSimpArgs false
set_option maxRecDepth 100000
theorem splitK_len(sep:List UInt8):∀(k:Nat) (s:List UInt8),(Lib.splitK sep 0 k s).length<=k+1
 |0,s=>by simp[Lib.splitK]
 |k+1,s=>by
  unfold Lib.splitK
  split
  ·simp
  ·have:=splitK_len sep k (s.drop ((Lib.index s sep).toNat+sep.length))
   simp only[List.length_cons];omega
theorem splitK_mem(sep:List UInt8):∀(k:Nat) (s x:List UInt8),x∈Lib.splitK sep 0 k s->x.length<=s.length
 |0,s,x,h=>by simp[Lib.splitK] at h;subst h;omega
 |k+1,s,x,h=>by
  unfold Lib.splitK at h
  split at h
  ·simp at h;subst h;omega
  ·rcases List.mem_cons.1 h with rfl|h
   ·simp;omega
   ·have:=splitK_mem sep k _ x h
    simp at this;omega
theorem split_len(s:List UInt8)(c:UInt8):(Lib.split s [c]).length<=s.length+1:=by
 have:=splitK_len [c] (Lib.count s [c]) s
 rw[Lib.count_one] at this
 have h2:=List.count_le_length (a:=c) (l:=s)
 unfold Lib.split
 rw[Lib.count_one]
 omega
theorem split_mem{s sep x:List UInt8}(h:x∈Lib.split s sep):x.length<=s.length:=splitK_mem _ _ _ _ h
theorem cut_len(s sep:List UInt8):(Lib.cut s sep).1.length<=s.length:=by
 unfold Lib.cut
 split<;>simp<;>omega
def prt(s:Tx):List Tx:=(Lib.split (Lib.cut s [35]).1 [32]).filter (fun x=>!(x==[]))
theorem prt_mem{s x:Tx}(h:x∈prt s):x.length<=s.length:=Nat.le_trans (split_mem (List.mem_filter.1 h).1) (cut_len s _)
theorem prt_len(s:Tx):(prt s).length<=s.length+1:=Nat.le_trans (List.length_filter_le ..) (Nat.le_trans (split_len _ _) (by have:=cut_len s [35];omega))
theorem M11_eq(F:Nat)(x:List UInt8)(c:UInt8)(h:x.length<=1000000):M11 F x [c]=some (Lib.split x [c]):=by
 unfold M11
 rw[if_pos ⟨by omega,by simp⟩]
theorem M16_eq(F:Nat)(x:List UInt8)(h:x.length<=1000000):M16 F x [35]=some (Lib.cut x [35]):=by
 unfold M16
 rw[if_pos (by omega)]
theorem M12_L1_eq(F:Nat)(k:List Tx->Option (List Tx)):∀(l acc:List Tx),acc.length+l.length<=1000000000->M12_L1 F k l acc=k (acc++l.filter (fun x=>!(x==[])))
 |[],acc,_=>by simp[M12_L1]
 |x::l,acc,h=>by
  unfold M12_L1
  simp only[List.length_cons] at h
  simp only[jn_def]
  cases hx:(x==([]:Tx)) with
  |true=>rw[if_neg (by simp),M12_L1_eq F k l acc (by omega),List.filter_cons_of_neg (by simp[hx])]
  |false=>rw[if_pos (by simp),if_pos (by simp only[List.length_append,List.length_singleton];omega),M12_L1_eq F k l _ (by simp only[List.length_append,List.length_singleton];omega),List.filter_cons_of_pos (by simp[hx]),List.append_assoc];rfl
theorem M12_eq(F:Nat)(x:Tx)(h:x.length<=1000000):M12 F x=some (prt x):=by
 have h1:=cut_len x [35]
 have h2:=split_len (Lib.cut x [35]).1 32
 unfold M12
 rw[M16_eq F x h,Option.bind_some,M11_eq F _ _ (by omega),Option.bind_some,jn_def,M12_L1_eq F _ _ _ (by simp only[List.length_nil];omega)]
 rfl
theorem M6_L2_eq(F:Nat)(k:List Tx->Option (TGraph×Int×Int)):∀(l acc:List Tx),acc.length+l.length<=1000000000->M6_L2 F k l acc=k (acc++l.filter (fun x=>!(x==[])))
 |[],acc,_=>by simp[M6_L2]
 |x::l,acc,h=>by
  unfold M6_L2
  simp only[List.length_cons] at h
  simp only[jn_def]
  cases hx:(x==([]:Tx)) with
  |true=>rw[if_neg (by simp),M6_L2_eq F k l acc (by omega),List.filter_cons_of_neg (by simp[hx])]
  |false=>rw[if_pos (by simp),if_pos (by simp only[List.length_append,List.length_singleton];omega),M6_L2_eq F k l _ (by simp only[List.length_append,List.length_singleton];omega),List.filter_cons_of_pos (by simp[hx]),List.append_assoc];rfl
abbrev Sto:=Int×List TIface×List TType×List TFunc×List Tx
def lstU{α:Type}(l:List α)(f:α->α):List α:=match idx l (w64 ((l.length:Int) - 1)) with|some x=>l.set (w64 ((l.length:Int) - 1)).toNat (f x)|none=>l
theorem lstU_some{α:Type}{l:List α}{x:α}(f:α->α)(h:idx l (w64 ((l.length:Int) - 1))=some x):lstU l f=l.set (w64 ((l.length:Int) - 1)).toNat (f x):=by unfold lstU;rw[h]
theorem lstU_len{α:Type}(l:List α)(f:α->α):(lstU l f).length=l.length:=by unfold lstU;split<;>simp
theorem lstU_mem{α:Type}{l:List α}{f:α->α}{y:α}(h:y∈lstU l f):y∈l\/∃x,x∈l/\y=f x:=by
 unfold lstU at h
 split at h
 ·rename_i x hx
  rcases List.mem_or_eq_of_mem_set h with h|h
  ·exact .inl h
  ·exact .inr ⟨x,List.mem_of_getElem? (idx_some hx).2,h⟩
 ·exact .inl h
theorem last_some{α:Type}{l:List α}(h:l≠[])(hl:l.length<=1000000000):∃x,x∈l/\idx l (w64 ((l.length:Int) - 1))=some x:=by
 have h0:1<=l.length:=List.length_pos_iff.2 h
 rw[w64m h0 (by omega),idx_nat (by omega)]
 exact⟨_,List.getElem_mem _,rfl⟩
def sIface:Tx:=[105,102,97,99,101]
def sType:Tx:=[116,121,112,101]
def sFunc:Tx:=[102,117,110,99]
def sEntry:Tx:=[101,110,116,114,121]
def sMethod:Tx:=[109,101,116,104,111,100]
def sMakes:Tx:=[109,97,107,101,115]
def sCall:Tx:=[99,97,108,108]
def sDisp:Tx:=[100,105,115,112,97,116,99,104]
def sIf:Tx:=[105,102]
def cl1:List Tx->Option TCall
 |[t]=>some (TCall.mk 1 t [] [])
 |[t,w,f]=>if w=sIf then some (TCall.mk 1 t [] f) else none
 |_=>none
def cl2:List Tx->Option TCall
 |[t,m]=>some (TCall.mk 2 t m [])
 |[t,m,w,f]=>if w=sIf then some (TCall.mk 2 t m f) else none
 |_=>none
def lineS(p:List Tx)(q:Sto):Option Sto:=
 match p with
 |[]=>none
 |w::ps=>
  if w=sIface then (match ps with|n::ms=>some (0,q.2.1++[TIface.mk n ms],q.2.2.1,q.2.2.2.1,q.2.2.2.2)|[]=>none)
  else if w=sType then (match ps with|[n]=>some (1,q.2.1,q.2.2.1++[TType.mk n []],q.2.2.2.1,q.2.2.2.2)|_=>none)
  else if w=sFunc then (match ps with|[n,c]=>some (2,q.2.1,q.2.2.1,q.2.2.2.1++[TFunc.mk n c [] []],q.2.2.2.2)|_=>none)
  else if w=sEntry then (match ps with|[n]=>some (0,q.2.1,q.2.2.1,q.2.2.2.1,q.2.2.2.2++[n])|_=>none)
  else if w=sMethod then (match ps with|[n,f]=>(if q.1=1 then some (q.1,q.2.1,lstU q.2.2.1 (fun x=>{ x with Methods:=x.Methods++[TMethod.mk n f] }),q.2.2.2.1,q.2.2.2.2) else none)|_=>none)
  else if q.1=2 then
   if w=sMakes then (match ps with|[t]=>some (q.1,q.2.1,q.2.2.1,lstU q.2.2.2.1 (fun x=>{ x with Makes:=x.Makes++[t] }),q.2.2.2.2)|_=>none)
   else if w=sCall then (match cl1 ps with|some c=>some (q.1,q.2.1,q.2.2.1,lstU q.2.2.2.1 (fun x=>{ x with Calls:=x.Calls++[c] }),q.2.2.2.2)|none=>none)
   else if w=sDisp then (match cl2 ps with|some c=>some (q.1,q.2.1,q.2.2.1,lstU q.2.2.2.1 (fun x=>{ x with Calls:=x.Calls++[c] }),q.2.2.2.2)|none=>none)
   else none
  else none
structure Inv(i:Nat)(q:Sto):Prop where
 hof:q.1=0\/(q.1=1/\q.2.2.1≠[])\/(q.1=2/\q.2.2.2.1≠[])
 hi:q.2.1.length<=i
 ht:q.2.2.1.length<=i
 hf:q.2.2.2.1.length<=i
 he:q.2.2.2.2.length<=i
 hti:∀x,x∈q.2.1->x.Name.length<=1000000/\x.Methods.length<=1000001/\∀y,y∈x.Methods->y.length<=1000000
 htt:∀x,x∈q.2.2.1->x.Name.length<=1000000/\x.Methods.length<=i/\∀y,y∈x.Methods->y.Name.length<=1000000/\y.Func.length<=1000000
 htf:∀x,x∈q.2.2.2.1->x.Name.length<=1000000/\x.Component.length<=1000000/\x.Calls.length<=i/\x.Makes.length<=i/\(∀c,c∈x.Calls->(c.Kind=1\/c.Kind=2)/\c.Target.length<=1000000/\c.Method.length<=1000000/\c.Feature.length<=1000000)/\∀y,y∈x.Makes->y.length<=1000000
 hte:∀y,y∈q.2.2.2.2->y.length<=1000000
theorem idx0{α:Type}{a:α}{l:List α}:idx (a::l) 0=some a:=rfl
theorem idx1{α:Type}{a b:α}{l:List α}:idx (a::b::l) 1=some b:=rfl
theorem idx2{α:Type}{a b c:α}{l:List α}:idx (a::b::c::l) 2=some c:=rfl
theorem idx3{α:Type}{a b c d:α}{l:List α}:idx (a::b::c::d::l) 3=some d:=rfl
theorem idx4{α:Type}{a b c d e:α}{l:List α}:idx (a::b::c::d::e::l) 4=some e:=rfl
theorem w1:w64 ((1:Int)+1)=2:=rfl
theorem w2:w64 ((1:Int)+2)=3:=rfl
theorem w3:w64 ((2:Int)+1)=3:=rfl
theorem w4:w64 ((2:Int)+2)=4:=rfl
theorem w5:w64 ((3:Int)+1)=4:=rfl
theorem M75_1(F:Nat)(l:List Tx):∃y,M75 F 1 1 l=some y/\(match cl1 l with|some c=>y=(c,true)|none=>y.2=false):=by
 rcases l with _|⟨t,_|⟨a,_|⟨b,_|⟨c,l⟩⟩⟩⟩
 ·exact⟨_,rfl,rfl⟩
 ·exact⟨_,rfl,rfl⟩
 ·exact⟨_,rfl,rfl⟩
 ·by_cases h:a=sIf
  ·subst h;exact⟨_,rfl,rfl⟩
  ·have h':(a==([105,102]:Tx))=false:=by simpa[sIf] using h
   refine⟨(TCall.mk 1 [] [] [],false),?_,by simp[cl1,h]⟩
   unfold M75
   simp only[jn_def,List.length_cons,List.length_nil]
   rw[if_neg (by decide),if_pos (by decide),idx1,Option.bind_some,h',if_neg (by simp)]
 ·refine⟨(TCall.mk 1 [] [] [],false),?_,by simp[cl1]⟩
  unfold M75
  simp only[jn_def,List.length_cons]
  rw[w2,if_neg (by simp;omega),if_neg (by simp;omega)]
theorem M75_2(F:Nat)(l:List Tx):∃y,M75 F 2 2 l=some y/\(match cl2 l with|some c=>y=(c,true)|none=>y.2=false):=by
 rcases l with _|⟨t,_|⟨a,_|⟨b,_|⟨c,_|⟨d,l⟩⟩⟩⟩⟩
 ·exact⟨_,rfl,rfl⟩
 ·exact⟨_,rfl,rfl⟩
 ·exact⟨_,rfl,rfl⟩
 ·exact⟨_,rfl,rfl⟩
 ·by_cases h:b=sIf
  ·subst h;exact⟨_,rfl,rfl⟩
  ·have h':(b==([105,102]:Tx))=false:=by simpa[sIf] using h
   refine⟨(TCall.mk 2 [] [] [],false),?_,by simp[cl2,h]⟩
   unfold M75
   simp only[jn_def,List.length_cons,List.length_nil]
   rw[if_neg (by decide),if_pos (by decide),idx2,Option.bind_some,h',if_neg (by simp)]
 ·refine⟨(TCall.mk 2 [] [] [],false),?_,by simp[cl2]⟩
  unfold M75
  simp only[jn_def,List.length_cons]
  rw[w4,if_neg (by simp;omega),if_neg (by simp;omega)]
theorem sne{a b:Tx}(h:¬a=b):(a==b)=false:=by simpa using h
theorem bigA{α:Type}{x:α}{l:List α}(k:Nat)(h:l.length<=1000001)(hk:k<=100):(l++[x]).length*k<=140737488355328:=by
 rw[List.length_append,List.length_singleton]
 exact Nat.le_trans (Nat.mul_le_mul (show l.length+1<=1000002 by omega) hk) (by decide)
theorem lS_iface(ps:List Tx)(q:Sto):lineS (sIface::ps) q=(match ps with|n::ms=>some (0,q.2.1++[TIface.mk n ms],q.2.2.1,q.2.2.2.1,q.2.2.2.2)|[]=>none):=rfl
theorem lS_type(ps:List Tx)(q:Sto):lineS (sType::ps) q=(match ps with|[n]=>some (1,q.2.1,q.2.2.1++[TType.mk n []],q.2.2.2.1,q.2.2.2.2)|_=>none):=rfl
theorem lS_func(ps:List Tx)(q:Sto):lineS (sFunc::ps) q=(match ps with|[n,c]=>some (2,q.2.1,q.2.2.1,q.2.2.2.1++[TFunc.mk n c [] []],q.2.2.2.2)|_=>none):=rfl
theorem lS_entry(ps:List Tx)(q:Sto):lineS (sEntry::ps) q=(match ps with|[n]=>some (0,q.2.1,q.2.2.1,q.2.2.2.1,q.2.2.2.2++[n])|_=>none):=rfl
theorem lS_method(ps:List Tx)(q:Sto):lineS (sMethod::ps) q=(match ps with|[n,f]=>(if q.1=1 then some (q.1,q.2.1,lstU q.2.2.1 (fun x=>{ x with Methods:=x.Methods++[TMethod.mk n f] }),q.2.2.2.1,q.2.2.2.2) else none)|_=>none):=rfl
theorem lS_method_no(ps:List Tx)(q:Sto)(h:¬q.1=1):lineS (sMethod::ps) q=none:=by
 rw[lS_method]
 split
 ·rw[if_neg h]
 ·rfl
theorem lS_makes(ps:List Tx)(q:Sto):lineS (sMakes::ps) q=if q.1=2 then (match ps with|[t]=>some (q.1,q.2.1,q.2.2.1,lstU q.2.2.2.1 (fun x=>{ x with Makes:=x.Makes++[t] }),q.2.2.2.2)|_=>none) else none:=rfl
theorem lS_call(ps:List Tx)(q:Sto):lineS (sCall::ps) q=if q.1=2 then (match cl1 ps with|some c=>some (q.1,q.2.1,q.2.2.1,lstU q.2.2.2.1 (fun x=>{ x with Calls:=x.Calls++[c] }),q.2.2.2.2)|none=>none) else none:=rfl
theorem lS_disp(ps:List Tx)(q:Sto):lineS (sDisp::ps) q=if q.1=2 then (match cl2 ps with|some c=>some (q.1,q.2.1,q.2.2.1,lstU q.2.2.2.1 (fun x=>{ x with Calls:=x.Calls++[c] }),q.2.2.2.2)|none=>none) else none:=rfl
theorem lS_other{w:Tx}(ps:List Tx)(q:Sto)(h1:w≠sIface)(h2:w≠sType)(h3:w≠sFunc)(h4:w≠sEntry)(h5:w≠sMethod)(h6:w≠sMakes)(h7:w≠sCall)(h8:w≠sDisp):lineS (w::ps) q=none:=by
 unfold lineS
 simp only[h1,h2,h3,h4,h5,h6,h7,h8,if_false]
 split<;>rfl
def In(r:Option (Bool×List TType×List TFunc))(q:Sto)(s:Option Sto):Prop:=∃y,r=some y/\(match s with|some q'=>q'=(q.1,q.2.1,y.2.1,y.2.2,q.2.2.2.2)/\y.1=true|none=>y.1=false)
theorem M39_eq(F:Nat)(w:Tx)(ps:List Tx)(q:Sto){i:Nat}(h:Inv i q)(hi:i<=1000000)(hp:ps.length<=1000001)(h1:w≠sIface)(h2:w≠sType)(h3:w≠sFunc)(h4:w≠sEntry):
  In (M39 F (w::ps) q.1 q.2.1 q.2.2.1 q.2.2.2.1 q.2.2.2.2) q (lineS (w::ps) q):=by
 have nof:q.1≠2->w≠sMethod->In (M39 F (w::ps) q.1 q.2.1 q.2.2.1 q.2.2.2.1 q.2.2.2.2) q none:=by
  intro h0 hm
  refine⟨(false,q.2.2.1,q.2.2.2.1),?_,rfl⟩
  unfold M39
  simp only[jn_def,idx0,Option.bind_some,sne (show ¬w=[109,101,116,104,111,100] from hm),Bool.false_eq_true,if_false]
  rw[if_pos (by simpa using h0)]
 by_cases h5:w=sMethod
 ·subst h5
  unfold M39
  simp only[jn_def,idx0,Option.bind_some]
  rw[if_pos (by decide)]
  rcases h.hof with h0|⟨h0,hT⟩|⟨h0,hG⟩
  ·rw[lS_method_no ps q (by omega),if_neg (by rw[h0];decide),if_pos (by rw[h0];decide)]
   exact⟨_,rfl,rfl⟩
  ·rw[lS_method,if_pos (by rw[h0];decide)]
   rcases ps with _|⟨a,_|⟨b,_|⟨c,ps⟩⟩⟩
   ·rw[if_neg (show ¬((([sMethod]:List Tx).length:Nat):Int)==3 by decide),if_pos (by rw[h0];decide)];exact⟨_,rfl,rfl⟩
   ·rw[if_neg (show ¬((([sMethod,a]:List Tx).length:Nat):Int)==3 by simp),if_pos (by rw[h0];decide)];exact⟨_,rfl,rfl⟩
   ·obtain⟨x,hx,hxe⟩:=last_some hT (by have:=h.ht;omega)
    rw[if_pos (show((([sMethod,a,b]:List Tx).length:Nat):Int)==3 from rfl),hxe,Option.bind_some,idx1,Option.bind_some,idx2,Option.bind_some,if_pos (bigA 32 (by have:=(h.htt x hx).2.1;omega) (by decide))]
    refine⟨_,rfl,?_⟩
    simp only[h0,if_true]
    rw[lstU_some _ hxe]
    exact⟨rfl,trivial⟩
   ·rw[if_neg (by simp;omega),if_pos (by rw[h0];decide)]
    exact⟨_,rfl,rfl⟩
  ·rw[lS_method_no ps q (by omega),if_neg (by rw[h0];decide),if_neg (by rw[h0];decide)]
   obtain⟨x,hx,hxe⟩:=last_some hG (by have:=h.hf;omega)
   rw[hxe,Option.bind_some,if_neg (by decide),if_neg (by decide),if_neg (by decide),Option.bind_some,if_pos (bigA 56 (by have:=(h.htf x hx).2.2.1;omega) (by decide))]
   exact⟨_,rfl,rfl⟩
 rcases Classical.em (¬q.1=2) with h0|h0
 ·have e:lineS (w::ps) q=none:=by
   unfold lineS
   simp only[h1,h2,h3,h4,h5,h0,if_false]
  rw[e];exact nof h0 h5
 replace h0:=Classical.not_not.1 h0
 have hG:q.2.2.2.1≠[]:=by
  rcases h.hof with e|⟨e,_⟩|⟨_,e⟩
  ·rw[h0] at e;exact absurd e (by decide)
  ·rw[h0] at e;exact absurd e (by decide)
  ·exact e
 obtain⟨x,hx,hxe⟩:=last_some hG (by have:=h.hf;omega)
 have lk:=h.htf x hx
 unfold M39
 simp only[jn_def,idx0,Option.bind_some,sne (show ¬w=[109,101,116,104,111,100] from h5),Bool.false_eq_true,if_false]
 rw[if_neg (by rw[h0];decide),hxe,Option.bind_some]
 by_cases h6:w=sMakes
 ·subst h6
  rw[lS_makes,if_pos h0,if_pos (by decide),if_pos (by simp),if_pos (by
   simp only[List.drop_one,List.tail_cons,List.length_append]
   exact Nat.le_trans (Nat.mul_le_mul_right 16 (show x.Makes.length+ps.length<=2000001 by omega)) (by decide))]
  refine⟨_,rfl,?_⟩
  rcases ps with _|⟨a,_|⟨b,ps⟩⟩
  ·rfl
  ·simp only[]
   rw[lstU_some _ hxe]
   exact⟨rfl,rfl⟩
  ·simp;omega
 rw[sne (show ¬w=[109,97,107,101,115] from h6),if_neg (by simp)]
 have bg:∀c:TCall,(x.Calls++[c]).length*56<=140737488355328:=fun c=>bigA 56 (by omega) (by decide)
 by_cases h7:w=sCall
 ·subst h7
  obtain⟨y,hy,hc⟩:=M75_1 F ps
  rw[lS_call,if_pos h0,if_pos (by decide),if_pos (by simp),List.drop_one,List.tail_cons,hy,Option.bind_some,Option.bind_some,if_pos (bg _)]
  refine⟨_,rfl,?_⟩
  cases e:cl1 ps with
  |none=>rw[e] at hc;exact hc
  |some c=>rw[e] at hc;subst hc;simp only[];rw[lstU_some _ hxe];exact⟨rfl,trivial⟩
 rw[sne (show ¬w=[99,97,108,108] from h7),if_neg (by simp)]
 by_cases h8:w=sDisp
 ·subst h8
  obtain⟨y,hy,hc⟩:=M75_2 F ps
  rw[lS_disp,if_pos h0,if_pos (by decide),if_pos (by simp),List.drop_one,List.tail_cons,hy,Option.bind_some,Option.bind_some,if_pos (bg _)]
  refine⟨_,rfl,?_⟩
  cases e:cl2 ps with
  |none=>rw[e] at hc;exact hc
  |some c=>rw[e] at hc;subst hc;simp only[];rw[lstU_some _ hxe];exact⟨rfl,trivial⟩
 rw[sne (show ¬w=[100,105,115,112,97,116,99,104] from h8),if_neg (by simp),Option.bind_some,if_pos (bg _),lS_other ps q h1 h2 h3 h4 h5 h6 h7 h8]
 exact⟨_,rfl,rfl⟩
def Ln(r:Option (Bool×Sto))(s:Option Sto):Prop:=∃y,r=some y/\(match s with|some q'=>y=(true,q')|none=>y.1=false)
theorem M13_eq(F:Nat)(w:Tx)(ps:List Tx)(q:Sto){i:Nat}(h:Inv i q)(hi:i<=1000000)(hp:ps.length<=1000001):
  Ln (M13 F (w::ps) q.1 q.2.1 q.2.2.1 q.2.2.2.1 q.2.2.2.2) (lineS (w::ps) q):=by
 have hhi:=h.hi;have hht:=h.ht;have hhf:=h.hf;have hhe:=h.he
 unfold M13
 simp only[idx0,Option.bind_some]
 by_cases h1:w=sIface
 ·subst h1
  rw[lS_iface,if_pos (by decide)]
  rcases ps with _|⟨n,ms⟩
  ·exact⟨_,rfl,rfl⟩
  ·rw[if_neg (by simp;omega),idx1,Option.bind_some,if_pos (by simp),if_pos (bigA 40 (by omega) (by decide))]
   exact⟨_,rfl,rfl⟩
 rw[sne (show ¬w=[105,102,97,99,101] from h1),if_neg (by simp)]
 by_cases h2:w=sType
 ·subst h2
  rw[lS_type,if_pos (by decide)]
  rcases ps with _|⟨n,_|⟨m,ms⟩⟩
  ·exact⟨_,rfl,rfl⟩
  ·rw[if_neg (by simp),idx1,Option.bind_some,if_pos (bigA 40 (by omega) (by decide))]
   exact⟨_,rfl,rfl⟩
  ·rw[if_pos (by simp;omega)];exact⟨_,rfl,rfl⟩
 rw[sne (show ¬w=[116,121,112,101] from h2),if_neg (by simp)]
 by_cases h3:w=sFunc
 ·subst h3
  rw[lS_func,if_pos (by decide)]
  rcases ps with _|⟨n,_|⟨m,_|⟨o,ms⟩⟩⟩
  ·exact⟨_,rfl,rfl⟩
  ·exact⟨_,rfl,rfl⟩
  ·rw[if_neg (by simp),idx1,Option.bind_some,idx2,Option.bind_some,if_pos (bigA 80 (by omega) (by decide))]
   exact⟨_,rfl,rfl⟩
  ·rw[if_pos (by simp;omega)];exact⟨_,rfl,rfl⟩
 rw[sne (show ¬w=[102,117,110,99] from h3),if_neg (by simp)]
 by_cases h4:w=sEntry
 ·subst h4
  rw[lS_entry,if_pos (by decide),if_pos (by simp),if_pos (by
   simp only[List.drop_one,List.tail_cons,List.length_append]
   exact Nat.le_trans (Nat.mul_le_mul_right 16 (show q.2.2.2.2.length+ps.length<=2000001 by omega)) (by decide))]
  refine⟨_,rfl,?_⟩
  rcases ps with _|⟨n,_|⟨m,ms⟩⟩
  ·rfl
  ·rfl
  ·simp;omega
 rw[sne (show ¬w=[101,110,116,114,121] from h4),if_neg (by simp)]
 obtain⟨y,hy,hs⟩:=M39_eq F w ps q h hi hp h1 h2 h3 h4
 rw[hy,Option.bind_some]
 refine⟨_,rfl,?_⟩
 cases e:lineS (w::ps) q with
 |none=>rw[e] at hs;exact hs
 |some q'=>rw[e] at hs;obtain⟨rfl,h9⟩:=hs;rw[h9]
def insOf(n:Int):Tx:=if n=1 then sType else if n=2 then sFunc else []
def Of(r:Option (Bool×List TFunc))(q:Sto)(s:Option Sto):Prop:=∃y,r=some y/\(match s with|some q'=>q'=(q.1,q.2.1,q.2.2.1,y.2,q.2.2.2.2)/\y.1=true|none=>y.1=false)
theorem M63_eq(F:Nat)(w:Tx)(ps:List Tx)(q:Sto)(s:Tx)(b:Bool){i:Nat}(h:Inv i q)(hi:i<=1000000)(hp:ps.length<=1000001)(h2:q.1=2)(hw:w=sMakes\/w=sCall\/w=sDisp):
  Of (M63 F (w::ps) s b q.2.1 q.2.2.1 q.2.2.2.1 q.2.2.2.2) q (lineS (w::ps) q):=by
 have hG:q.2.2.2.1≠[]:=by
  rcases h.hof with e|⟨e,_⟩|⟨_,e⟩
  ·rw[h2] at e;exact absurd e (by decide)
  ·rw[h2] at e;exact absurd e (by decide)
  ·exact e
 obtain⟨x,hx,hxe⟩:=last_some hG (by have:=h.hf;omega)
 have lk:=h.htf x hx
 have bg:∀c:TCall,(x.Calls++[c]).length*56<=140737488355328:=fun c=>bigA 56 (by omega) (by decide)
 have bm:∀c:Tx,(x.Makes++[c]).length*16<=140737488355328:=fun c=>bigA 16 (by omega) (by decide)
 unfold M63
 simp only[jn_def,idx0,Option.bind_some,hxe]
 rcases hw with rfl|rfl|rfl
 ·rw[lS_makes,if_pos h2,if_pos (by decide)]
  rcases ps with _|⟨t,_|⟨a,ps⟩⟩
  ·exact⟨_,rfl,rfl⟩
  ·rw[if_neg (by simp),idx1,Option.bind_some,if_pos (bm _)]
   refine⟨_,rfl,?_⟩
   simp only[]
   rw[lstU_some _ hxe]
   exact⟨rfl,trivial⟩
  ·rw[if_pos (by simp;omega)];exact⟨_,rfl,rfl⟩
 ·rw[lS_call,if_pos h2,if_neg (by decide),if_neg (by decide)]
  rcases ps with _|⟨t,_|⟨a,_|⟨f,_|⟨g,ps⟩⟩⟩⟩
  ·exact⟨_,rfl,rfl⟩
  ·rw[if_neg (by simp),idx1,Option.bind_some,if_neg (by decide),if_neg (by simp),if_pos (bg _)]
   refine⟨_,rfl,?_⟩
   simp only[cl1]
   rw[lstU_some _ hxe]
   exact⟨rfl,trivial⟩
  ·exact⟨_,rfl,rfl⟩
  ·rw[if_pos (by simp),if_pos (by simp[w64_id]),idx2,Option.bind_some]
   by_cases ha:a=sIf
   ·subst ha
    rw[if_neg (by decide),idx1,Option.bind_some,if_neg (by decide),if_pos (by simp),w3,idx3,Option.bind_some,if_pos (bg _)]
    refine⟨_,rfl,?_⟩
    simp only[cl1,if_true]
    rw[lstU_some _ hxe]
    exact⟨rfl,trivial⟩
   ·rw[sne (show ¬a=[105,102] from ha),if_pos (by simp)]
    refine⟨_,rfl,?_⟩
    simp[cl1,ha]
  ·rw[if_pos (by simp;omega),if_neg (by simp[w64_id];omega)];exact⟨_,rfl,rfl⟩
 ·rw[lS_disp,if_pos h2,if_neg (by decide),if_pos (by decide)]
  rcases ps with _|⟨t,_|⟨m,_|⟨a,_|⟨f,_|⟨g,ps⟩⟩⟩⟩⟩
  ·exact⟨_,rfl,rfl⟩
  ·exact⟨_,rfl,rfl⟩
  ·rw[if_neg (by simp),idx1,Option.bind_some,if_pos (by decide),idx2,Option.bind_some,if_neg (by simp),if_pos (bg _)]
   refine⟨_,rfl,?_⟩
   simp only[cl2]
   rw[lstU_some _ hxe]
   exact⟨rfl,trivial⟩
  ·exact⟨_,rfl,rfl⟩
  ·rw[if_pos (by simp),if_pos (by simp[w64_id]),idx3,Option.bind_some]
   by_cases ha:a=sIf
   ·subst ha
    rw[if_neg (by decide),idx1,Option.bind_some,if_pos (by decide),idx2,Option.bind_some,if_pos (by simp),w5,idx4,Option.bind_some,if_pos (bg _)]
    refine⟨_,rfl,?_⟩
    simp only[cl2,if_true]
    rw[lstU_some _ hxe]
    exact⟨rfl,trivial⟩
   ·rw[sne (show ¬a=[105,102] from ha),if_pos (by simp)]
    refine⟨_,rfl,?_⟩
    simp[cl2,ha]
  ·rw[if_pos (by simp;omega),if_neg (by simp[w64_id];omega)];exact⟨_,rfl,rfl⟩
abbrev StR:=Tx×List TIface×List TType×List TFunc×List Tx
def LnR(r:Option (Bool×StR))(s:Option Sto):Prop:=∃y,r=some y/\(match s with|some q'=>y=(true,insOf q'.1,q'.2)|none=>y.1=false)
theorem ins_type{n:Int}(h:n=0\/n=1\/n=2):(insOf n==([116,121,112,101]:Tx))=decide (n=1):=by rcases h with rfl|rfl|rfl<;>rfl
theorem ins_func{n:Int}(h:n=0\/n=1\/n=2):(insOf n==([102,117,110,99]:Tx))=decide (n=2):=by rcases h with rfl|rfl|rfl<;>rfl
theorem M17_eq(F:Nat)(w:Tx)(ps:List Tx)(q:Sto){i:Nat}(h:Inv i q)(hi:i<=1000000)(hp:ps.length<=1000001):
  LnR (M17 F (w::ps) (insOf q.1) false q.2.1 q.2.2.1 q.2.2.2.1 q.2.2.2.2) (lineS (w::ps) q):=by
 have hhi:=h.hi;have hht:=h.ht;have hhf:=h.hf;have hhe:=h.he
 have hof:q.1=0\/q.1=1\/q.1=2:=by rcases h.hof with h|⟨h,_⟩|⟨h,_⟩<;>omega
 unfold M17
 simp only[idx0,Option.bind_some,jn_def]
 rcases Classical.em (w=sIface) with h1|h1
 ·subst h1
  rw[lS_iface,if_pos (by decide)]
  rcases ps with _|⟨n,ms⟩
  ·exact⟨_,rfl,rfl⟩
  ·rw[if_neg (by simp;omega),idx1,Option.bind_some,if_pos (by simp),if_pos (by simp only[List.drop_succ_cons,List.drop_zero,List.nil_append];simp only[List.length_cons] at hp;omega),if_pos (bigA 40 (by omega) (by decide))]
   exact⟨_,rfl,rfl⟩
 rw[sne (show ¬w=[105,102,97,99,101] from h1),if_neg (by simp)]
 rcases Classical.em (w=sType) with h2|h2
 ·subst h2
  rw[lS_type,if_pos (by decide)]
  rcases ps with _|⟨n,_|⟨m,ms⟩⟩
  ·exact⟨_,rfl,rfl⟩
  ·rw[if_neg (by simp),idx1,Option.bind_some,if_pos (bigA 40 (by omega) (by decide))]
   exact⟨_,rfl,rfl⟩
  ·rw[if_pos (by simp;omega)];exact⟨_,rfl,rfl⟩
 rw[sne (show ¬w=[116,121,112,101] from h2),if_neg (by simp)]
 rcases Classical.em (w=sFunc) with h3|h3
 ·subst h3
  rw[lS_func,if_pos (by decide)]
  rcases ps with _|⟨n,_|⟨m,_|⟨o,ms⟩⟩⟩
  ·exact⟨_,rfl,rfl⟩
  ·exact⟨_,rfl,rfl⟩
  ·rw[if_neg (by simp),idx1,Option.bind_some,idx2,Option.bind_some,if_pos (bigA 80 (by omega) (by decide))]
   exact⟨_,rfl,rfl⟩
  ·rw[if_pos (by simp;omega)];exact⟨_,rfl,rfl⟩
 rw[sne (show ¬w=[102,117,110,99] from h3),if_neg (by simp)]
 rcases Classical.em (w=sEntry) with h4|h4
 ·subst h4
  rw[lS_entry,if_pos (by decide)]
  rcases ps with _|⟨n,_|⟨m,ms⟩⟩
  ·exact⟨_,rfl,rfl⟩
  ·rw[if_neg (by simp),idx1,Option.bind_some,if_pos (bigA 16 (by omega) (by decide))]
   exact⟨_,rfl,rfl⟩
  ·rw[if_pos (by simp;omega)];exact⟨_,rfl,rfl⟩
 rw[sne (show ¬w=[101,110,116,114,121] from h4),if_neg (by simp)]
 rcases Classical.em (w=sMethod) with h5|h5
 ·subst h5
  rw[if_pos (by decide),ins_type hof]
  rcases ps with _|⟨n,_|⟨m,_|⟨o,ms⟩⟩⟩
  ·exact⟨_,rfl,rfl⟩
  ·exact⟨_,rfl,rfl⟩
  ·rw[if_neg (by simp)]
   by_cases h0:q.1=1
   ·have hT:q.2.2.1≠[]:=by
     rcases h.hof with e|⟨_,e⟩|⟨e,_⟩
     ·omega
     ·exact e
     ·omega
    obtain⟨x,hx,hxe⟩:=last_some hT (by omega)
    rw[if_neg (by simp[h0]),hxe,Option.bind_some,idx1,Option.bind_some,idx2,Option.bind_some,if_pos (bigA 32 (by have:=(h.htt x hx).2.1;omega) (by decide)),lS_method]
    refine⟨_,rfl,?_⟩
    simp only[h0,if_true]
    rw[lstU_some _ hxe]
   ·rw[if_pos (by simp[h0]),lS_method_no _ _ h0]
    exact⟨_,rfl,rfl⟩
  ·rw[if_pos (by simp;omega)]
   refine⟨_,rfl,?_⟩
   rw[lS_method]
 rw[sne (show ¬w=[109,101,116,104,111,100] from h5),if_neg (by simp),ins_func hof]
 have nok:∀s:Option Sto,s=none->LnR (some (false,insOf q.1,q.2.1,q.2.2.1,q.2.2.2.1,q.2.2.2.2)) s:=fun s e=>by subst e;exact⟨_,rfl,rfl⟩
 have fin:(w=sMakes\/w=sCall\/w=sDisp)->LnR (if decide (q.1=2)=true then (M63 F (w::ps) (insOf q.1) false q.2.1 q.2.2.1 q.2.2.2.1 q.2.2.2.2).bind fun y112=>some ((y112.1),insOf q.1,q.2.1,q.2.2.1,(y112.2),q.2.2.2.2) else some (false,insOf q.1,q.2.1,q.2.2.1,q.2.2.2.1,q.2.2.2.2)) (lineS (w::ps) q):=by
  intro hw
  by_cases h0:q.1=2
  ·obtain⟨y,hy,hs⟩:=M63_eq F w ps q (insOf q.1) false h hi hp h0 hw
   rw[if_pos (by simp[h0]),hy,Option.bind_some]
   refine⟨_,rfl,?_⟩
   cases e:lineS (w::ps) q with
   |none=>rw[e] at hs;exact hs
   |some q'=>rw[e] at hs;obtain⟨rfl,h9⟩:=hs;simp only[h9]
  ·rw[if_neg (by simp[h0])]
   refine nok _ ?_
   unfold lineS
   simp only[h1,h2,h3,h4,h5,h0,if_false]
 rcases Classical.em (w=sCall) with h6|h6
 ·have e:(w==([99,97,108,108]:Tx))=true:=by rw[h6];rfl
  simp only[e,if_true]
  exact fin (.inr (.inl h6))
 have e:(w==([99,97,108,108]:Tx))=false:=sne h6
 rw[e,if_neg (by simp)]
 rcases Classical.em (w=sDisp) with h7|h7
 ·have e:(w==([100,105,115,112,97,116,99,104]:Tx))=true:=by rw[h7];rfl
  simp only[e,if_true]
  exact fin (.inr (.inr h7))
 have e:(w==([100,105,115,112,97,116,99,104]:Tx))=false:=sne h7
 rw[e,if_neg (by simp)]
 rcases Classical.em (w=sMakes) with h8|h8
 ·have e:(w==([109,97,107,101,115]:Tx))=true:=by rw[h8];rfl
  simp only[e,if_true]
  exact fin (.inl h8)
 have e:(w==([109,97,107,101,115]:Tx))=false:=sne h8
 rw[e,if_neg (by simp)]
 exact nok _ (lS_other ps q h1 h2 h3 h4 h5 h8 h6 h7)
theorem cl1_ok{ps:List Tx}{c:TCall}(h:cl1 ps=some c)(hp:∀x,x∈ps->x.length<=1000000):(c.Kind=1\/c.Kind=2)/\c.Target.length<=1000000/\c.Method.length<=1000000/\c.Feature.length<=1000000:=by
 unfold cl1 at h
 split at h
 ·cases h;exact⟨.inl rfl,hp _ (by simp),by simp,by simp⟩
 ·split at h
  ·cases h;exact⟨.inl rfl,hp _ (by simp),by simp,hp _ (by simp)⟩
  ·cases h
 ·cases h
theorem cl2_ok{ps:List Tx}{c:TCall}(h:cl2 ps=some c)(hp:∀x,x∈ps->x.length<=1000000):(c.Kind=1\/c.Kind=2)/\c.Target.length<=1000000/\c.Method.length<=1000000/\c.Feature.length<=1000000:=by
 unfold cl2 at h
 split at h
 ·cases h;exact⟨.inr rfl,hp _ (by simp),hp _ (by simp),by simp⟩
 ·split at h
  ·cases h;exact⟨.inr rfl,hp _ (by simp),hp _ (by simp),hp _ (by simp)⟩
  ·cases h
 ·cases h
theorem Inv.next{i:Nat}{q:Sto}(h:Inv i q):Inv (i+1) q:=
 ⟨h.hof,by have:=h.hi;omega,by have:=h.ht;omega,by have:=h.hf;omega,by have:=h.he;omega,h.hti,
  fun x hx=>⟨(h.htt x hx).1,by have:=(h.htt x hx).2.1;omega,(h.htt x hx).2.2⟩,
  fun x hx=>⟨(h.htf x hx).1,(h.htf x hx).2.1,by have:=(h.htf x hx).2.2.1;omega,by have:=(h.htf x hx).2.2.2.1;omega,(h.htf x hx).2.2.2.2⟩,h.hte⟩
theorem mem_snoc{α:Type}{l:List α}{x y:α}(h:y∈l++[x]):y∈l\/y=x:=by simpa using h
theorem len_snoc{α:Type}{l:List α}{x:α}{i:Nat}(h:l.length<=i):(l++[x]).length<=i+1:=by simp;omega
theorem lstU_ne{α:Type}{l:List α}{f:α->α}(h:l≠[]):lstU l f≠[]:=by
 intro e
 have:=lstU_len l f
 rw[e] at this
 exact h (List.length_eq_zero_iff.1 this.symm)
theorem Inv.line{i:Nat}{q q':Sto}{w:Tx}{ps:List Tx}(h:Inv i q)(hp:∀x,x∈ps->x.length<=1000000)(hl:ps.length<=1000001)(e:lineS (w::ps) q=some q'):Inv (i+1) q':=by
 have h':=h.next
 have fadd:∀c:TCall,q.1=2->((c.Kind=1\/c.Kind=2)/\c.Target.length<=1000000/\c.Method.length<=1000000/\c.Feature.length<=1000000)->Inv (i+1) (q.1,q.2.1,q.2.2.1,lstU q.2.2.2.1 (fun x=>{ x with Calls:=x.Calls++[c] }),q.2.2.2.2):=by
  intro c h0 hc
  have hG:q.2.2.2.1≠[]:=by
   rcases h.hof with e|⟨e,_⟩|⟨_,e⟩
   ·omega
   ·omega
   ·exact e
  refine⟨.inr (.inr ⟨h0,lstU_ne hG⟩),h'.hi,h'.ht,by rw[lstU_len];exact h'.hf,h'.he,h'.hti,h'.htt,?_,h'.hte⟩
  intro x hx
  rcases lstU_mem hx with hx|⟨y,hy,rfl⟩
  ·exact h'.htf x hx
  ·obtain⟨a1,a2,a3,a4,a5,a6⟩:=h.htf y hy
   exact⟨a1,a2,len_snoc a3,by show y.Makes.length<=_;omega,fun z hz=>(mem_snoc hz).elim (fun hz=>a5 z hz) (fun e=>by rw[e];exact hc),a6⟩
 rcases Classical.em (w=sIface) with h1|h1
 ·subst h1
  rw[lS_iface] at e
  split at e
  ·cases e
   refine⟨.inl rfl,len_snoc h.hi,h'.ht,h'.hf,h'.he,?_,h'.htt,h'.htf,h'.hte⟩
   intro x hx
   rcases mem_snoc hx with hx|rfl
   ·exact h.hti x hx
   ·exact⟨hp _ (by simp),by simp only[List.length_cons] at hl;dsimp only;omega,fun y hy=>hp y (List.mem_cons_of_mem _ hy)⟩
  ·cases e
 rcases Classical.em (w=sType) with h2|h2
 ·subst h2
  rw[lS_type] at e
  split at e
  ·cases e
   refine⟨.inr (.inl ⟨rfl,by simp⟩),h'.hi,len_snoc h.ht,h'.hf,h'.he,h'.hti,?_,h'.htf,h'.hte⟩
   intro x hx
   rcases mem_snoc hx with hx|rfl
   ·exact h'.htt x hx
   ·exact⟨hp _ (by simp),by simp,by simp⟩
  ·cases e
 rcases Classical.em (w=sFunc) with h3|h3
 ·subst h3
  rw[lS_func] at e
  split at e
  ·cases e
   refine⟨.inr (.inr ⟨rfl,by simp⟩),h'.hi,h'.ht,len_snoc h.hf,h'.he,h'.hti,h'.htt,?_,h'.hte⟩
   intro x hx
   rcases mem_snoc hx with hx|rfl
   ·exact h'.htf x hx
   ·exact⟨hp _ (by simp),hp _ (by simp),by simp,by simp,by simp,by simp⟩
  ·cases e
 rcases Classical.em (w=sEntry) with h4|h4
 ·subst h4
  rw[lS_entry] at e
  split at e
  ·cases e
   refine⟨.inl rfl,h'.hi,h'.ht,h'.hf,len_snoc h.he,h'.hti,h'.htt,h'.htf,?_⟩
   intro x hx
   rcases mem_snoc hx with hx|rfl
   ·exact h.hte x hx
   ·exact hp _ (by simp)
  ·cases e
 rcases Classical.em (w=sMethod) with h5|h5
 ·subst h5
  rw[lS_method] at e
  split at e
  ·split at e
   ·rename_i h0
    cases e
    have hT:q.2.2.1≠[]:=by
     rcases h.hof with e|⟨_,e⟩|⟨e,_⟩
     ·omega
     ·exact e
     ·omega
    refine⟨.inr (.inl ⟨h0,lstU_ne hT⟩),h'.hi,by rw[lstU_len];exact h'.ht,h'.hf,h'.he,h'.hti,?_,h'.htf,h'.hte⟩
    intro x hx
    rcases lstU_mem hx with hx|⟨y,hy,rfl⟩
    ·exact h'.htt x hx
    ·obtain⟨a1,a2,a3⟩:=h.htt y hy
     exact⟨a1,len_snoc a2,fun z hz=>(mem_snoc hz).elim (fun hz=>a3 z hz) (fun e=>by rw[e];exact⟨hp _ (by simp),hp _ (by simp)⟩)⟩
   ·cases e
  ·cases e
 rcases Classical.em (¬q.1=2) with h0|h0
 ·exact absurd e (by unfold lineS;simp only[h1,h2,h3,h4,h5,h0,if_false];simp)
 replace h0:=Classical.not_not.1 h0
 rcases Classical.em (w=sMakes) with h6|h6
 ·subst h6
  rw[lS_makes,if_pos h0] at e
  split at e
  ·cases e
   have hG:q.2.2.2.1≠[]:=by
    rcases h.hof with e|⟨e,_⟩|⟨_,e⟩
    ·omega
    ·omega
    ·exact e
   refine⟨.inr (.inr ⟨h0,lstU_ne hG⟩),h'.hi,h'.ht,by rw[lstU_len];exact h'.hf,h'.he,h'.hti,h'.htt,?_,h'.hte⟩
   intro x hx
   rcases lstU_mem hx with hx|⟨y,hy,rfl⟩
   ·exact h'.htf x hx
   ·obtain⟨a1,a2,a3,a4,a5,a6⟩:=h.htf y hy
    exact⟨a1,a2,by show y.Calls.length<=_;omega,len_snoc a4,a5,fun z hz=>(mem_snoc hz).elim (fun hz=>a6 z hz) (fun e=>by rw[e];exact hp _ (by simp))⟩
  ·cases e
 rcases Classical.em (w=sCall) with h7|h7
 ·subst h7
  rw[lS_call,if_pos h0] at e
  split at e
  ·rename_i c hc
   cases e
   exact fadd c h0 (cl1_ok hc hp)
  ·cases e
 rcases Classical.em (w=sDisp) with h8|h8
 ·subst h8
  rw[lS_disp,if_pos h0] at e
  split at e
  ·rename_i c hc
   cases e
   exact fadd c h0 (cl2_ok hc hp)
  ·cases e
 ·rw[lS_other ps q h1 h2 h3 h4 h5 h6 h7 h8] at e;cases e
def runS:List Tx->Nat->Sto->Nat ⊕ Sto
 |[],i,q=>.inr q
 |x::l,i,q=>match prt x with|[]=>runS l (i+1) q|w::ps=>(match lineS (w::ps) q with|some q'=>runS l (i+1) q'|none=>.inl i)
def G0:TGraph:=TGraph.mk [] [] [] []
theorem runS_inv:∀(l:List Tx) (i:Nat) (q q':Sto),Inv i q->(∀x,x∈l->x.length<=1000000)->runS l i q=.inr q'->Inv (i+l.length) q'
 |[],i,q,q',h,_,e=>by cases e;exact h
 |x::l,i,q,q',h,hx,e=>by
  have hx0:=hx x (List.mem_cons_self ..)
  have hr:=fun y hy=>hx y (List.mem_cons_of_mem _ hy)
  unfold runS at e
  rw[List.length_cons,show i+(l.length+1)=i+1+l.length by omega]
  split at e
  ·exact runS_inv l _ _ _ h.next hr e
  ·rename_i w ps hp
   split at e
   ·rename_i q1 h1
    refine runS_inv l _ _ _ (h.line ?_ ?_ h1) hr e
    ·exact fun y hy=>Nat.le_trans (prt_mem (s:=x) (by rw[hp];exact List.mem_cons_of_mem _ hy)) hx0
    ·have:=prt_len x;rw[hp,List.length_cons] at this;omega
   ·cases e
theorem M5_L1_eq(F:Nat)(k:Int->List TIface->List TType->List TFunc->List Tx->Option (TGraph×Int×Int)):∀(l:List Tx) (i:Nat) (q:Sto),Inv i q->i+l.length<=1000001->(∀x,x∈l->x.length<=1000000)->
  M5_L1 F k l (i:Int) q.1 q.2.1 q.2.2.1 q.2.2.2.1 q.2.2.2.2=(match runS l i q with | .inl j=>some (G0,(j:Int),6) | .inr q'=>k q'.1 q'.2.1 q'.2.2.1 q'.2.2.2.1 q'.2.2.2.2)
 |[],i,q,_,_,_=>rfl
 |x::l,i,q,h,hb,hx=>by
  have hx0:=hx x (List.mem_cons_self ..)
  have hr:=fun y hy=>hx y (List.mem_cons_of_mem _ hy)
  simp only[List.length_cons] at hb
  unfold M5_L1 runS
  simp only[jn_def]
  rw[M12_eq F x hx0,Option.bind_some]
  have e1:((i:Int)+1)=((i+1:Nat):Int):=rfl
  rw[e1]
  split
  ·rename_i hp
   have hl:(prt x).length=0\/(prt x).length≠0:=by omega
   cases hq:prt x with
   |nil=>rw[hq] at hp;simp at hp
   |cons w ps=>
    simp only[]
    have hw:=prt_len x
    rw[hq,List.length_cons] at hw
    have hm:∀y,y∈ps->y.length<=1000000:=fun y hy=>Nat.le_trans (prt_mem (s:=x) (by rw[hq];exact List.mem_cons_of_mem _ hy)) hx0
    obtain⟨y,hy,hs⟩:=M13_eq F w ps q h (by omega) (by omega)
    rw[hy,Option.bind_some]
    cases e:lineS (w::ps) q with
    |none=>rw[e] at hs;rw[if_pos (by simp only[] at hs;rw[hs];rfl)];rfl
    |some q'=>
     rw[e] at hs;simp only[] at hs;subst hs
     rw[if_neg (by simp)]
     exact M5_L1_eq F k l (i+1) q' (h.line hm (by omega) e) (by omega) hr
  ·rename_i hp
   cases hq:prt x with
   |nil=>exact M5_L1_eq F k l (i+1) q h.next (by omega) hr
   |cons w ps=>rw[hq] at hp;exfalso;apply hp;simp
theorem M6_L1_eq(F:Nat)(k:Tx->List TIface->List TType->List TFunc->List Tx->Option (TGraph×Int×Int)):∀(l:List Tx) (i:Nat) (q:Sto),Inv i q->i+l.length<=1000001->(∀x,x∈l->x.length<=1000000)->
  M6_L1 F k l (i:Int) (insOf q.1) q.2.1 q.2.2.1 q.2.2.2.1 q.2.2.2.2=(match runS l i q with | .inl j=>some (G0,(j:Int),6) | .inr q'=>k (insOf q'.1) q'.2.1 q'.2.2.1 q'.2.2.2.1 q'.2.2.2.2)
 |[],i,q,_,_,_=>rfl
 |x::l,i,q,h,hb,hx=>by
  have hx0:=hx x (List.mem_cons_self ..)
  have hr:=fun y hy=>hx y (List.mem_cons_of_mem _ hy)
  have h1:=cut_len x [35]
  have h2:=split_len (Lib.cut x [35]).1 32
  simp only[List.length_cons] at hb
  unfold M6_L1 runS
  simp only[jn_def]
  rw[M16_eq F x hx0,Option.bind_some,M11_eq F _ _ (by omega),Option.bind_some,M6_L2_eq F _ _ _ (by simp only[List.length_nil];omega),List.nil_append]
  have e1:((i:Int)+1)=((i+1:Nat):Int):=rfl
  rw[e1]
  rw[show List.filter (fun x=>!(x==[])) (Lib.split (Lib.cut x [35]).1 [32])=prt x from rfl]
  split
  ·rename_i hp
   cases hq:prt x with
   |nil=>rw[hq] at hp;simp at hp
   |cons w ps=>
    simp only[]
    have hw:=prt_len x
    rw[hq,List.length_cons] at hw
    have hm:∀y,y∈ps->y.length<=1000000:=fun y hy=>Nat.le_trans (prt_mem (s:=x) (by rw[hq];exact List.mem_cons_of_mem _ hy)) hx0
    obtain⟨y,hy,hs⟩:=M17_eq F w ps q h (by omega) (by omega)
    rw[hy,Option.bind_some]
    cases e:lineS (w::ps) q with
    |none=>rw[e] at hs;rw[if_pos (by simp only[] at hs;rw[hs];rfl)];rfl
    |some q'=>
     rw[e] at hs;simp only[] at hs;subst hs
     rw[if_neg (by simp)]
     exact M6_L1_eq F k l (i+1) q' (h.line hm (by omega) e) (by omega) hr
  ·rename_i hp
   cases hq:prt x with
   |nil=>exact M6_L1_eq F k l (i+1) q h.next (by omega) hr
   |cons w ps=>rw[hq] at hp;exfalso;apply hp;simp
end Go.Proofs.YtjofofmllnpkpaaGreatDoor
namespace Go.Pv
open Go
set_option linter.unusedVariables false
set_option linter.unusedSimpArgs false
theorem leT_refl(a:List UInt8):leT a a=true:=by simp[leT,bl_irrefl]
theorem leT_total(a b:List UInt8):(leT a b||leT b a)=true:=by
 unfold leT
 rcases bl_tri a b with h|h|h
 ·simp[bl_asymm h]
 ·subst h;simp[bl_irrefl]
 ·simp[bl_asymm h]
theorem leT_anti{a b:List UInt8}(h:leT a b=true)(h':leT b a=true):a=b:=by
 unfold leT at h h'
 rcases bl_tri a b with g|g|g
 ·simp[g] at h'
 ·exact g
 ·simp[g] at h
theorem leT_trans(a b c:List UInt8)(h:leT a b=true)(h':leT b c=true):leT a c=true:=by
 unfold leT at *
 rcases bl_tri a b with g|g|g
 ·rcases bl_tri b c with k|k|k
  ·simp[bl_asymm (bl_trans g k)]
  ·subst k;simp[bl_asymm g]
  ·simp[k] at h'
 ·subst g;exact h'
 ·simp[g] at h
theorem leT_of_lt{a b:List UInt8}(h:Op.bytesLess a b=true):leT a b=true:=by simp[leT,bl_asymm h]
theorem lt_of_leT{a b:List UInt8}(h:leT a b=true)(hne:a≠b):Op.bytesLess a b=true:=by
 rcases bl_tri a b with g|g|g
 ·exact g
 ·exact absurd g hne
 ·simp[leT,g] at h
abbrev leK{α:Type}(a b:List UInt8×α):Bool:=leT a.1 b.1
theorem canonM_sorted{α:Type}(l:List (List UInt8×α)):(canonM l).Pairwise (fun a b=>leT a.1 b.1=true):=
 List.pairwise_mergeSort (le:=leK) (fun a b c=>leT_trans a.1 b.1 c.1) (fun a b=>leT_total a.1 b.1) l
structure SetOk(m:List (List UInt8×Bool)):Prop where
 srt:(m.map (·.1)).Pairwise (fun a b=>Op.bytesLess a b=true)
 all:∀p,p∈m->p.2=true
theorem SetOk.nil:SetOk []:=⟨by simp,by simp⟩
theorem nodup_lt{l:List (List UInt8)}(h:l.Pairwise (fun a b=>Op.bytesLess a b=true)):l.Nodup:=h.imp bl_ne
theorem lt_of_sorted{l:List (List UInt8)}(h:l.Pairwise (fun a b=>leT a b=true))(hn:l.Nodup):l.Pairwise (fun a b=>Op.bytesLess a b=true):=by
 induction l with
 |nil=>exact .nil
 |cons x l ih=>
  rw[List.pairwise_cons] at h ⊢
  rw[List.nodup_cons] at hn
  exact⟨fun y hy=>lt_of_leT (h.1 y hy) (fun e=>hn.1 (by rw[e];exact hy)),ih h.2 hn.2⟩
theorem mput_keys{α:Type}(x:List UInt8)(v:α):∀m:List (List UInt8×α),((mput m x v).map (·.1))=if x∈m.map (·.1) then m.map (·.1) else m.map (·.1)++[x]
 |[]=>by simp[mput]
 |p::m=>by
  simp only[mput]
  by_cases h:p.1=x
  ·rw[if_pos h];simp[h]
  ·rw[if_neg h,List.map_cons,mput_keys x v m]
   by_cases hx:x∈m.map (·.1)
   ·rw[if_pos hx,if_pos (by simp at hx ⊢;exact .inr hx)];rfl
   ·rw[if_neg hx,if_neg (by simp at hx ⊢;exact⟨fun e=>h e.symm,hx⟩)];rfl
theorem mput_all{α:Type}(x:List UInt8)(v:α):∀(m:List (List UInt8×α)) (p:List UInt8×α),p∈mput m x v->p=(x,v)\/p∈m
 |[],p,h=>by simp[mput] at h;exact .inl h
 |q::m,p,h=>by
  simp only[mput] at h
  split at h
  ·rcases List.mem_cons.1 h with h|h
   ·exact .inl h
   ·exact .inr (List.mem_cons_of_mem _ h)
  ·rcases List.mem_cons.1 h with h|h
   ·exact .inr (by rw[h];exact List.mem_cons_self)
   ·rcases mput_all x v m p h with h|h
    ·exact .inl h
    ·exact .inr (List.mem_cons_of_mem _ h)
theorem ins_srt{α:Type}{m:List (List UInt8×α)}(x:List UInt8)(v:α)(h:(m.map (·.1)).Pairwise (fun a b=>Op.bytesLess a b=true)):((canonM (mput m x v)).map (·.1)).Pairwise (fun a b=>Op.bytesLess a b=true):=by
 refine lt_of_sorted ?_ ?_
 ·rw[List.pairwise_map];exact canonM_sorted _
 ·refine((canonM_perm (mput m x v)).map (·.1)).nodup_iff.2 ?_
  rw[mput_keys]
  split
  ·exact nodup_lt h
  ·rename_i hx
   rw[List.nodup_append]
   exact⟨nodup_lt h,by simp,fun a ha b hb e=>hx (by simp at hb;rw[<-hb,<-e];exact ha)⟩
theorem SetOk.ins{m:List (List UInt8×Bool)}(h:SetOk m)(x:List UInt8):SetOk (canonM (mput m x true)):=by
 refine⟨ins_srt x true h.srt,fun p hp=>?_⟩
 rcases mput_all x true m p ((canonM_perm _).mem_iff.1 hp) with e|e
 ·rw[e]
 ·exact h.all p e
theorem mget_mem{α:Type}:∀(m:List (List UInt8×α)) (x:List UInt8),(mget m x).isSome=true<->x∈m.map (·.1)
 |[],x=>by simp[mget]
 |p::m,x=>by
  simp only[mget,List.map_cons,List.mem_cons]
  by_cases h:p.1=x
  ·simp[h]
  ·rw[if_neg h,mget_mem m x]
   exact⟨.inr,fun q=>q.elim (fun e=>absurd e.symm h) (fun h=>h)⟩
theorem mget_in{α:Type}:∀(m:List (List UInt8×α)) (x:List UInt8) (v:α),mget m x=some v->(x,v)∈m
 |[],x,v,h=>by simp[mget] at h
 |p::m,x,v,h=>by
  simp only[mget] at h
  split at h
  ·rename_i e;simp at h;subst e;subst h;exact List.mem_cons_self
  ·exact List.mem_cons_of_mem _ (mget_in m x v h)
theorem SetOk.get{m:List (List UInt8×Bool)}(h:SetOk m)(x:List UInt8):(mget m x).getD false=true<->x∈m.map (·.1):=by
 rw[<-mget_mem]
 cases hg:mget m x with
 |none=>simp
 |some v=>simp;exact h.all _ (mget_in m x v hg)
def srtT(l:List (List UInt8)):List (List UInt8):=l.mergeSort leT
theorem srtT_perm(l:List (List UInt8)):(srtT l).Perm l:=List.mergeSort_perm _ _
theorem srtT_srt(l:List (List UInt8)):(srtT l).Pairwise (fun a b=>leT a b=true):=List.pairwise_mergeSort leT_trans leT_total l
theorem srt_uniq{l l':List (List UInt8)}(h:l.Pairwise (fun a b=>leT a b=true))(h':l'.Pairwise (fun a b=>leT a b=true))(hp:l.Perm l'):l=l':=
 List.Perm.eq_of_pairwise (le:=fun a b=>leT a b=true) (fun a b _ _ g g'=>leT_anti g g') h h' hp
theorem bl_lt(a b:List UInt8):(a<b)<->Op.bytesLess a b=true:=by
 induction a generalizing b with
 |nil=>cases b<;>simp[Op.bytesLess]
 |cons x a ih=>
  cases b with
  |nil=>simp[Op.bytesLess]
  |cons y b=>rw[bl_cons,List.cons_lt_cons_iff,ih];simp
theorem le_leT(a b:List UInt8):decide (a<=b)=leT a b:=by
 unfold leT
 rw[<-Bool.not_inj_iff,Bool.not_not]
 cases h:Op.bytesLess b a
 ·simp only[Bool.not_eq_eq_eq_not,Bool.not_false,decide_eq_true_eq]
  exact fun hh=>by rw[(bl_lt b a).1 hh] at h;simp at h
 ·simp only[Bool.not_eq_eq_eq_not,Bool.not_true,decide_eq_false_iff_not]
  exact fun hh=>hh ((bl_lt b a).2 h)
theorem tsort_eq(l:List (List UInt8)):tsort l=srtT l:=by
 unfold tsort srtT
 congr 1
 funext a b
 exact le_leT a b
end Go.Pv
namespace Go.Proofs.YtjofofmllnpkpaaGreatDoor
open Go Go.Pv
set_option linter.unusedVariables false
set_option linter.unusedSimpArgs false
set_option maxRecDepth 100000
def mrg(g:Int->Tx):List Int->List Int->List Int×Bool
 |[],b=>(b,false)
 |x::a,[]=>(x::a,false)
 |x::a,y::b=>
  if (Op.bytesLess (g x) (g y)||g x==g y)=true then (x::(mrg g a (y::b)).1,g x==g y||(mrg g a (y::b)).2)
  else (y::(mrg g (x::a) b).1,g x==g y||(mrg g (x::a) b).2)
termination_by a b=>a.length+b.length
theorem mrg_nil{g:Int->Tx}{b:List Int}:mrg g [] b=(b,false):=by unfold mrg;rfl
theorem mrg_nil'{g:Int->Tx}{a:List Int}:mrg g a []=(a,false):=by cases a<;>(unfold mrg;rfl)
theorem mrg_le{g:Int->Tx}{x y:Int}{a b:List Int}(h:(Op.bytesLess (g x) (g y)||g x==g y)=true):mrg g (x::a) (y::b)=(x::(mrg g a (y::b)).1,g x==g y||(mrg g a (y::b)).2):=by
 rw[mrg,if_pos h]
theorem mrg_gt{g:Int->Tx}{x y:Int}{a b:List Int}(h:¬(Op.bytesLess (g x) (g y)||g x==g y)=true):mrg g (x::a) (y::b)=(y::(mrg g (x::a) b).1,g x==g y||(mrg g (x::a) b).2):=by
 rw[mrg,if_neg h]
def gOf(names:List Tx)(x:Int):Tx:=(idx names x).getD []
theorem M94_L1_eq(F:Nat)(names:List Tx)(k:Bool->List Int->Option (Bool×List Int)):∀(n:Nat) (a b acc:List Int) (tw:Bool),(∀x,x∈a->idx names x=some (gOf names x))->(∀x,x∈b->idx names x=some (gOf names x))->a.length+b.length<n->acc.length+a.length+b.length<=1000000000->
  M94_L1 F names k n a b tw acc=k (tw||(mrg (gOf names) a b).2) (acc++(mrg (gOf names) a b).1)
 |0,_,_,_,_,_,_,h,_=>absurd h (Nat.not_lt_zero _)
 |n+1,[],[],acc,tw,_,_,_,_=>by
  unfold M94_L1
  rw[if_neg (by simp),if_neg (by simp),mrg_nil]
  simp
 |n+1,[],y::b,acc,tw,ha,hb,hn,hl=>by
  simp only[List.length_cons,List.length_nil] at hn hl
  unfold M94_L1
  rw[if_neg (by simp),if_pos (by simp),if_neg (by simp;omega),show idx (y::b) 0=some y from rfl,Option.bind_some,if_pos (by simp;omega),if_pos (by simp),List.drop_one,List.tail_cons,
   M94_L1_eq F names k n [] b _ tw ha (fun x hx=>hb x (List.mem_cons_of_mem _ hx)) (by simp;omega) (by simp;omega)]
  simp[mrg_nil]
 |n+1,x::a,[],acc,tw,ha,hb,hn,hl=>by
  simp only[List.length_cons,List.length_nil] at hn hl
  unfold M94_L1
  rw[if_pos (by simp),if_neg (by simp),if_pos (by simp),show idx (x::a) 0=some x from rfl,Option.bind_some,if_pos (by simp;omega),if_pos (by simp),List.drop_one,List.tail_cons,
   M94_L1_eq F names k n a [] _ tw (fun x hx=>ha x (List.mem_cons_of_mem _ hx)) hb (by simp;omega) (by simp;omega)]
  simp[mrg_nil']
 |n+1,x::a,y::b,acc,tw,ha,hb,hn,hl=>by
  simp only[List.length_cons] at hn hl
  have hx:=ha x (List.mem_cons_self ..)
  have hy:=hb y (List.mem_cons_self ..)
  have ha':∀z,z∈a->idx names z=some (gOf names z):=fun z hz=>ha z (List.mem_cons_of_mem _ hz)
  have hb':∀z,z∈b->idx names z=some (gOf names z):=fun z hz=>hb z (List.mem_cons_of_mem _ hz)
  unfold M94_L1
  simp only[jn_def,show idx (x::a) 0=some x from rfl,show idx (y::b) 0=some y from rfl,Option.bind_some,hx,hy,List.drop_one,List.tail_cons]
  rw[if_pos (by simp),if_pos (by simp)]
  have z0:((((y::b).length:Nat):Int)==0)=false:=by simp;omega
  simp only[z0,Bool.false_eq_true,if_false]
  have b1:∀z:Int,(acc++[z]).length*8<=140737488355328:=fun z=>by simp;omega
  have l1:1<=(x::a).length:=by simp
  have l2:1<=(y::b).length:=by simp
  simp only[b1,l1,l2,if_true]
  by_cases hc:(Op.bytesLess (gOf names x) (gOf names y)||gOf names x==gOf names y)=true
  ·rw[mrg_le hc]
   simp only[hc,if_true]
   have r:∀t,M94_L1 F names k n a (y::b) t (acc++[x])=k (t||(mrg (gOf names) a (y::b)).2) (acc++[x]++(mrg (gOf names) a (y::b)).1):=fun t=>
    M94_L1_eq F names k n a (y::b) (acc++[x]) t ha' hb (by simp;omega) (by simp;omega)
   rw[r,r]
   cases gOf names x==gOf names y<;>simp
  ·rw[mrg_gt hc]
   simp only[hc,Bool.false_eq_true,if_false]
   have r:∀t,M94_L1 F names k n (x::a) b t (acc++[y])=k (t||(mrg (gOf names) (x::a) b).2) (acc++[y]++(mrg (gOf names) (x::a) b).1):=fun t=>
    M94_L1_eq F names k n (x::a) b (acc++[y]) t ha hb' (by simp;omega) (by simp;omega)
   rw[r,r]
   cases gOf names x==gOf names y<;>simp
theorem mrg_perm(g:Int->Tx):∀(n:Nat) (a b:List Int),a.length+b.length<=n->(mrg g a b).1.Perm (a++b)
 |_,[],b,_=>by rw[mrg_nil];exact .refl _
 |_,x::a,[],_=>by rw[mrg_nil'];simp
 |0,x::a,y::b,h=>by simp at h
 |n+1,x::a,y::b,h=>by
  simp only[List.length_cons] at h
  by_cases hc:(Op.bytesLess (g x) (g y)||g x==g y)=true
  ·rw[mrg_le hc];exact(mrg_perm g n a (y::b) (by simp;omega)).cons x
  ·rw[mrg_gt hc]
   exact((mrg_perm g n (x::a) b (by simp;omega)).cons y).trans (List.perm_middle (l₁:=x::a)).symm
abbrev Srt(g:Int->Tx)(l:List Int):Prop:=l.Pairwise (fun x y=>leT (g x) (g y)=true)
theorem le_of{a b:Tx}(h:(Op.bytesLess a b||a==b)=true):leT a b=true:=by
 have:=bl_gt a b
 rw[h] at this
 simp only[Bool.not_true] at this
 simp[leT,<-this]
theorem gt_of{a b:Tx}(h:¬(Op.bytesLess a b||a==b)=true):Op.bytesLess b a=true:=by
 rw[<-bl_gt];simpa using h
theorem mrg_srt(g:Int->Tx):∀(n:Nat) (a b:List Int),a.length+b.length<=n->Srt g a->Srt g b->Srt g (mrg g a b).1/\((mrg g a b).2=true<->∃x,x∈a/\∃y,y∈b/\g x=g y)
 |_,[],b,_,_,hb=>by rw[mrg_nil];exact⟨hb,by simp⟩
 |_,x::a,[],_,ha,_=>by rw[mrg_nil'];exact⟨ha,by simp⟩
 |0,x::a,y::b,h,_,_=>by simp at h
 |n+1,x::a,y::b,h,ha,hb=>by
  simp only[List.length_cons] at h
  have ha1:=List.pairwise_cons.1 ha
  have hb1:=List.pairwise_cons.1 hb
  by_cases hc:(Op.bytesLess (g x) (g y)||g x==g y)=true
  ·rw[mrg_le hc]
   obtain⟨r1,r2⟩:=mrg_srt g n a (y::b) (by simp;omega) ha1.2 hb
   refine⟨List.pairwise_cons.2 ⟨?_,r1⟩,?_⟩
   ·intro z hz
    rcases List.mem_append.1 ((mrg_perm g n a (y::b) (by simp;omega)).mem_iff.1 hz) with hz|hz
    ·exact ha1.1 z hz
    ·rcases List.mem_cons.1 hz with rfl|hz
     ·exact le_of hc
     ·exact leT_trans _ _ _ (le_of hc) (hb1.1 z hz)
   ·simp only[Bool.or_eq_true,beq_iff_eq,r2]
    constructor
    ·rintro(e|⟨u,hu,v,hv,e⟩)
     ·exact⟨x,List.mem_cons_self ..,y,List.mem_cons_self ..,e⟩
     ·exact⟨u,List.mem_cons_of_mem _ hu,v,hv,e⟩
    ·rintro⟨u,hu,v,hv,e⟩
     rcases List.mem_cons.1 hu with rfl|hu
     ·rcases List.mem_cons.1 hv with rfl|hv
      ·exact .inl e
      ·refine .inl ?_
       have h1:=le_of hc
       have h2:=hb1.1 v hv
       rw[<-e] at h2
       rcases bl_tri (g u) (g y) with h|h|h
       ·simp[leT,h] at h2
       ·exact h
       ·simp[leT,h] at h1
     ·exact .inr ⟨u,hu,v,hv,e⟩
  ·rw[mrg_gt hc]
   have hg:=gt_of hc
   obtain⟨r1,r2⟩:=mrg_srt g n (x::a) b (by simp;omega) ha hb1.2
   refine⟨List.pairwise_cons.2 ⟨?_,r1⟩,?_⟩
   ·intro z hz
    rcases List.mem_append.1 ((mrg_perm g n (x::a) b (by simp;omega)).mem_iff.1 hz) with hz|hz
    ·rcases List.mem_cons.1 hz with rfl|hz
     ·exact leT_of_lt hg
     ·exact leT_trans _ _ _ (leT_of_lt hg) (ha1.1 z hz)
    ·exact hb1.1 z hz
   ·have hne:(g x==g y)=false:=by
     cases e:g x==g y
     ·rfl
     ·simp[e] at hc
    rw[hne,Bool.false_or,r2]
    constructor
    ·rintro⟨u,hu,v,hv,e⟩
     exact⟨u,hu,v,List.mem_cons_of_mem _ hv,e⟩
    ·rintro⟨u,hu,v,hv,e⟩
     rcases List.mem_cons.1 hv with rfl|hv
     ·exfalso
      have h1:leT (g x) (g u)=true:=by
       rcases List.mem_cons.1 hu with rfl|hu
       ·exact leT_refl _
       ·exact ha1.1 u hu
      rw[e] at h1
      simp[leT,hg] at h1
     ·exact⟨u,hu,v,hv,e⟩
theorem rng_ok{names:List Tx}{f n:Nat}{l:List Int}(h:f+n<=names.length)(hl:l.Perm ((List.range' f n).map Int.ofNat)):∀x,x∈l->idx names x=some (gOf names x):=by
 intro x hx
 obtain⟨i,hi,rfl⟩:=List.mem_map.1 (hl.mem_iff.1 hx)
 have:=List.mem_range'_1.1 hi
 unfold gOf
 rw[show idx names (Int.ofNat i)=some names[i] from idx_nat (by omega)]
 rfl
theorem M94_eq(names:List Tx)(hn:names.length<=1000001):∀(m n f F:Nat) (r:Tprovenderref6_reader),n<=m->1<=n->f+n<=names.length->n+2<=F->
  ∃l d,M94 F names (f:Int) ((f+n:Nat):Int) r=some (r.twice||d,l)/\l.Perm ((List.range' f n).map Int.ofNat)/\Srt (gOf names) l/\(d=true<->¬((List.range' f n).map fun i=>gOf names (Int.ofNat i)).Nodup)
 |0,n,f,F,r,hm,h1,_,_=>by omega
 |m+1,n,f,0,r,_,_,_,hF=>by omega
 |m+1,n,f,F+1,r,hm,h1,h2,hF=>by
  show ∃l d,M94_B (M94 F) F names (f:Int) ((f+n:Nat):Int) r=_/\_
  unfold M94_B
  by_cases e:n=1
  ·subst e
   rw[if_pos (by rw[w64s (by omega) (by omega)];simp)]
   refine⟨[(f:Int)],false,by rw[Bool.or_false],?_,List.pairwise_singleton _ _,?_⟩
   ·exact .refl _
   ·simp[List.range']
  ·have hp1:1<=n / 2:=by omega
   have hp2:n / 2<n:=by omega
   have hmid:w64 (Int.tdiv (w64 ((f:Int)+((f+n:Nat):Int))) 2)=((f+n / 2:Nat):Int):=by
    rw[w64a (by omega),show(2:Int)=((2:Nat):Int) from rfl,<-Int.ofNat_tdiv,show(f+(f+n)) / 2=f+n / 2 by omega,w64n (by omega)]
   rw[if_neg (by rw[w64s (by omega) (by omega)];simp;omega),hmid]
   obtain⟨l1,d1,e1,p1,s1,n1⟩:=M94_eq names hn m (n / 2) f F r (by omega) hp1 (by omega) (by omega)
   rw[e1,Option.bind_some]
   obtain⟨l2,d2,e2,p2,s2,n2⟩:=M94_eq names hn m (n - n / 2) (f+n / 2) F (Tprovenderref6_reader.mk r.g r.inside (r.twice||d1)) (by omega) (by omega) (by omega) (by omega)
   rw[show f+n / 2+(n - n / 2)=f+n by omega] at e2
   rw[e2,Option.bind_some,jn_def]
   have len1:l1.length=n / 2:=by rw[p1.length_eq];simp
   have len2:l2.length=n - n / 2:=by rw[p2.length_eq];simp
   rw[M94_L1_eq F names _ F l1 l2 [] _ (rng_ok (by omega) p1) (rng_ok (by omega) p2) (by omega) (by simp;omega)]
   obtain⟨q1,q2⟩:=mrg_srt (gOf names) (l1.length+l2.length) l1 l2 (Nat.le_refl _) s1 s2
   have hr:List.range' f n=List.range' f (n / 2)++List.range' (f+n / 2) (n - n / 2):=by rw[List.range'_append_1,show n / 2+(n - n / 2)=n by omega]
   refine⟨(mrg (gOf names) l1 l2).1,d1||d2||(mrg (gOf names) l1 l2).2,by simp only[List.nil_append,Bool.or_assoc],?_,q1,?_⟩
   ·rw[hr,List.map_append]
    exact(mrg_perm _ _ _ _ (Nat.le_refl _)).trans (p1.append p2)
   ·rw[hr,List.map_append,List.nodup_append,Bool.or_eq_true,Bool.or_eq_true,n1,n2,q2]
    have hz:(∃x,x∈l1/\∃y,y∈l2/\gOf names x=gOf names y)<->¬∀(a:Tx),a∈List.map (fun i=>gOf names (Int.ofNat i)) (List.range' f (n / 2))->∀(b:Tx),b∈List.map (fun i=>gOf names (Int.ofNat i)) (List.range' (f+n / 2) (n - n / 2))->a≠b:=by
     constructor
     ·rintro⟨x,hx,y,hy,e⟩ h
      obtain⟨i,hi,rfl⟩:=List.mem_map.1 (p1.mem_iff.1 hx)
      obtain⟨j,hj,rfl⟩:=List.mem_map.1 (p2.mem_iff.1 hy)
      exact h _ (List.mem_map.2 ⟨i,hi,rfl⟩) _ (List.mem_map.2 ⟨j,hj,rfl⟩) e
     ·intro h
      apply Classical.byContradiction
      intro h'
      apply h
      intro a ha b hb e
      obtain⟨i,hi,rfl⟩:=List.mem_map.1 ha
      obtain⟨j,hj,rfl⟩:=List.mem_map.1 hb
      exact h' ⟨_,p1.mem_iff.2 (List.mem_map.2 ⟨i,hi,rfl⟩),_,p2.mem_iff.2 (List.mem_map.2 ⟨j,hj,rfl⟩),e⟩
    rw[hz]
    by_cases a1:(List.map (fun i=>gOf names (Int.ofNat i)) (List.range' f (n / 2))).Nodup
    ·by_cases a2:(List.map (fun i=>gOf names (Int.ofNat i)) (List.range' (f+n / 2) (n - n / 2))).Nodup
     ·simp only[a1,a2,true_and,not_true,false_or]
     ·simp only[a1,a2,true_and,false_and,not_true,not_false_eq_true,false_or,true_or,or_true]
    ·simp only[a1,false_and,not_false_eq_true,true_or]
theorem map_gOf(names:List Tx):(List.range' 0 names.length).map (fun i=>gOf names (Int.ofNat i))=names:=by
 apply List.ext_getElem
 ·simp
 ·intro i h1 h2
  simp only[List.getElem_map,List.getElem_range']
  unfold gOf
  rw[show Int.ofNat (0+1*i)=((i:Nat):Int) by simp,idx_nat h2]
  rfl
theorem M64_eq(F:Nat)(names:List Tx)(r:Tprovenderref6_reader)(hn:names.length<=1000001)(hF:1000010<=F):
  ∃l d,M64 F names r=some (r.twice||d,l)/\l.Perm ((List.range' 0 names.length).map Int.ofNat)/\Srt (gOf names) l/\(d=true<->¬names.Nodup):=by
 unfold M64
 by_cases h0:names.length=0
 ·have:names=[]:=List.length_eq_zero_iff.1 h0
  subst this
  exact⟨[],false,by simp,by simp,.nil,by simp⟩
 ·rw[if_neg (by simpa using h0)]
  obtain⟨l,d,e,p,s,n⟩:=M94_eq names hn names.length names.length 0 F r (Nat.le_refl _) (by omega) (by omega) (by omega)
  rw[Nat.zero_add] at e
  rw[show(0:Int)=((0:Nat):Int) from rfl,e,Option.bind_some]
  rw[map_gOf] at n
  exact⟨l,d,rfl,p,s,n⟩
def pick{α:Type}(xs:List α)(l:List Int):List α:=l.filterMap (idx xs)
theorem pick_all{α:Type}(xs:List α):pick xs ((List.range' 0 xs.length).map Int.ofNat)=xs:=by
 unfold pick
 rw[List.filterMap_map]
 have:∀(n:Nat) (h:n<=xs.length),(List.range' n (xs.length - n)).filterMap (idx xs ∘ Int.ofNat)=xs.drop n:=by
  intro n h
  induction hk:xs.length - n generalizing n with
  |zero=>simp;omega
  |succ k ih=>
   have hn:n<xs.length:=by omega
   rw[List.range'_succ,List.filterMap_cons,show(idx xs ∘ Int.ofNat) n=some xs[n] from idx_nat hn]
   simp only[]
   have:=ih (n+1) (by omega) (by omega)
   rw[this,<-List.drop_eq_getElem_cons hn]
 simpa using this 0 (Nat.zero_le _)
def OrdOf{α:Type}(nm:α->Tx)(xs ys:List α):Prop:=ys.Perm xs/\ys.Pairwise (fun x y=>leT (nm x) (nm y)=true)
theorem pick_ord{α:Type}(nm:α->Tx)(xs:List α){l:List Int}(p:l.Perm ((List.range' 0 xs.length).map Int.ofNat))(s:Srt (gOf (xs.map nm)) l):OrdOf nm xs (pick xs l):=by
 constructor
 ·have:=p.filterMap (idx xs)
  rw[show List.filterMap (idx xs) ((List.range' 0 xs.length).map Int.ofNat)=xs from pick_all xs] at this
  exact this
 ·unfold pick
  rw[List.pairwise_filterMap]
  refine s.imp ?_
  intro a b h x hx y hy
  have e:∀{c:Int} {z:α},idx xs c=some z->gOf (xs.map nm) c=nm z:=by
   intro c z hz
   obtain⟨h0,h1⟩:=idx_some hz
   unfold gOf idx
   rw[if_pos h0,List.getElem?_map,h1]
   rfl
  rw[e hx,e hy] at h
  exact h
theorem OrdOf.uniq{α:Type}{nm:α->Tx}{xs xs' ys zs:List α}(h1:OrdOf nm xs ys)(h2:OrdOf nm xs' zs)(hp:xs.Perm xs')(hd:(xs.map nm).Nodup):ys=zs:=by
 refine List.Perm.eq_of_pairwise (le:=fun x y=>leT (nm x) (nm y)=true) ?_ h1.2 h2.2 (h1.1.trans (hp.trans h2.1.symm))
 intro a b ha hb g g'
 have e:=leT_anti g g'
 have ha':=h1.1.mem_iff.1 ha
 have hb':=hp.mem_iff.2 (h2.1.mem_iff.1 hb)
 have hd':=List.pairwise_map.1 hd
 obtain⟨i,hi,rfl⟩:=List.mem_iff_getElem.1 ha'
 obtain⟨j,hj,rfl⟩:=List.mem_iff_getElem.1 hb'
 have:=List.pairwise_iff_getElem.1 hd'
 rcases Nat.lt_trichotomy i j with h|h|h
 ·exact absurd e (this i j hi hj h)
 ·subst h;rfl
 ·exact absurd e.symm (this j i hj hi h)
end Go.Proofs.YtjofofmllnpkpaaGreatDoor
