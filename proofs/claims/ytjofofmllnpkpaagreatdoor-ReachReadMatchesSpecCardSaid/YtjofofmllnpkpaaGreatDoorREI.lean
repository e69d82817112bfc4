/- Part of the proof: TP7, TP8, TP9, TP10, EI. -/
import Derived.Test.YtjofofmllnpkpaaGreatDoorRTP6
import Derived.Test.YtjofofmllnpkpaaGreatDoorRDM
import Derived.Test.YtjofofmllnpkpaaGreatDoorRWA
namespace Go.Proofs.YtjofofmllnpkpaaGreatDoor
open Go Go.Pv
set_option linter.unusedVariables false
set_option linter.unusedSimpArgs false
set_option maxRecDepth 100000
theorem pick_cons{α:Type}{xs:List α}{x:Int}{y:α}{l:List Int}(h:idx xs x=some y):pick xs (x::l)=y::pick xs l:=by
 unfold pick;rw[List.filterMap_cons,h]
theorem pl_all{α:Type}{xs:List α}{l:List Int}(p:l.Perm ((List.range' 0 xs.length).map Int.ofNat)):∀x,x∈l->∃y,idx xs x=some y:=by
 intro x hx
 obtain⟨i,hi,rfl⟩:=List.mem_map.1 (p.mem_iff.1 hx)
 have:=List.mem_range'_1.1 hi
 exact⟨xs[i],idx_nat (by omega)⟩
theorem pl_len{α:Type}{xs:List α}{l:List Int}(p:l.Perm ((List.range' 0 xs.length).map Int.ofNat)):l.length=xs.length:=by rw[p.length_eq];simp
theorem names_len{α:Type}(f:α->Tx)(l:List α):(l.map f).length=l.length:=List.length_map ..
theorem M21_L1_eq(F:Nat)(a:List Tx)(k:List Tx->Option (Bool×List Tx)):∀(l:List Int) (acc:List Tx),(∀x,x∈l->∃y,idx a x=some y)->acc.length+l.length<=1000000000->M21_L1 F a k l acc=k (acc++pick a l)
 |[],acc,_,_=>by simp[M21_L1,pick]
 |x::l,acc,h,hl=>by
  obtain⟨y,hy⟩:=h x (List.mem_cons_self ..)
  simp only[List.length_cons] at hl
  unfold M21_L1
  rw[hy,Option.bind_some,if_pos (by simp;omega),M21_L1_eq F a k l _ (fun z hz=>h z (List.mem_cons_of_mem _ hz)) (by simp;omega),pick_cons hy,List.append_assoc];rfl
theorem M21_eq(F:Nat)(a:List Tx)(r:Tprovenderref6_reader)(hn:a.length<=1000001)(hF:1000010<=F):
  ∃d,M21 F a r=some (r.twice||d,srtT a)/\(d=true<->¬a.Nodup):=by
 obtain⟨l,d,e,p,s,n⟩:=M64_eq F a r hn hF
 have hl:=pl_len p
 unfold M21
 rw[e,Option.bind_some,jn_def,M21_L1_eq F a _ _ _ (pl_all p) (by simp;omega),List.nil_append]
 have o:=pick_ord (fun x=>x) a p (by rw[List.map_id'];exact s)
 rw[show pick a l=srtT a from srt_uniq o.2 (srtT_srt a) (o.1.trans (srtT_perm a).symm)]
 exact⟨d,rfl,n⟩
theorem M18_L1_eq(F:Nat)(k:List Tx->Option (Bool×List TIface)):∀(l:List TIface) (acc:List Tx),acc.length+l.length<=1000000000->M18_L1 F k l acc=k (acc++l.map (·.Name))
 |[],acc,_=>by simp[M18_L1]
 |x::l,acc,hl=>by
  simp only[List.length_cons] at hl
  unfold M18_L1
  rw[if_pos (by simp;omega),M18_L1_eq F k l _ (by simp;omega),List.append_assoc];rfl
theorem M18_L2_eq(F:Nat)(r:Tprovenderref6_reader)(k:List TIface->Option (Bool×List TIface)):∀(l:List Int) (acc:List TIface),(∀x,x∈l->∃y,idx r.g.Ifaces x=some y)->acc.length+l.length<=1000000000->M18_L2 F r k l acc=k (acc++pick r.g.Ifaces l)
 |[],acc,_,_=>by simp[M18_L2,pick]
 |x::l,acc,h,hl=>by
  obtain⟨y,hy⟩:=h x (List.mem_cons_self ..)
  simp only[List.length_cons] at hl
  unfold M18_L2
  rw[hy,Option.bind_some,if_pos (by simp;omega),M18_L2_eq F r k l _ (fun z hz=>h z (List.mem_cons_of_mem _ hz)) (by simp;omega),pick_cons hy,List.append_assoc];rfl
theorem M18_eq(F:Nat)(r:Tprovenderref6_reader)(hn:r.g.Ifaces.length<=1000001)(hF:1000010<=F):
  ∃d ys,M18 F r=some (r.twice||d,ys)/\OrdOf (·.Name) r.g.Ifaces ys/\(d=true<->¬(r.g.Ifaces.map (·.Name)).Nodup):=by
 obtain⟨l,d,e,p,s,n⟩:=M64_eq F (r.g.Ifaces.map (·.Name)) r (by rw[names_len];omega) hF
 rw[names_len] at p
 have hl:=pl_len p
 unfold M18
 rw[jn_def,M18_L1_eq F _ _ _ (by simp;omega),List.nil_append,e,Option.bind_some,jn_def,M18_L2_eq F r _ _ _ (pl_all p) (by simp;omega),List.nil_append]
 exact⟨d,_,rfl,pick_ord _ _ p s,n⟩
def smM(l:List TMethod):List TMethod:=l.mergeSort (fun a b=>leT a.Name b.Name)
theorem smM_ord(l:List TMethod):OrdOf (·.Name) l (smM l):=⟨List.mergeSort_perm _ _,List.pairwise_mergeSort (fun a b c=>leT_trans a.Name b.Name c.Name) (fun a b=>leT_total a.Name b.Name) l⟩
def sT(t:TType):TType:=TType.mk t.Name (smM t.Methods)
def sF(f:TFunc):TFunc:=TFunc.mk f.Name f.Component f.Calls (srtT f.Makes)
theorem M19_L1_eq(F:Nat)(k:List Tx->Option (Bool×List TType)):∀(l:List TType) (acc:List Tx),acc.length+l.length<=1000000000->M19_L1 F k l acc=k (acc++l.map (·.Name))
 |[],acc,_=>by simp[M19_L1]
 |x::l,acc,hl=>by
  simp only[List.length_cons] at hl
  unfold M19_L1
  rw[if_pos (by simp;omega),M19_L1_eq F k l _ (by simp;omega),List.append_assoc];rfl
theorem M19_L3_eq(F:Nat)(k:List Tx->Option (Bool×List TType)):∀(l:List TMethod) (acc:List Tx),acc.length+l.length<=1000000000->M19_L3 F k l acc=k (acc++l.map (·.Name))
 |[],acc,_=>by simp[M19_L3]
 |x::l,acc,hl=>by
  simp only[List.length_cons] at hl
  unfold M19_L3
  rw[if_pos (by simp;omega),M19_L3_eq F k l _ (by simp;omega),List.append_assoc];rfl
theorem M19_L4_eq(F:Nat)(t:TType)(k:List TMethod->Option (Bool×List TType)):∀(l:List Int) (acc:List TMethod),(∀x,x∈l->∃y,idx t.Methods x=some y)->acc.length+l.length<=1000000000->M19_L4 F t k l acc=k (acc++pick t.Methods l)
 |[],acc,_,_=>by simp[M19_L4,pick]
 |x::l,acc,h,hl=>by
  obtain⟨y,hy⟩:=h x (List.mem_cons_self ..)
  simp only[List.length_cons] at hl
  unfold M19_L4
  rw[hy,Option.bind_some,if_pos (by simp;omega),M19_L4_eq F t k l _ (fun z hz=>h z (List.mem_cons_of_mem _ hz)) (by simp;omega),pick_cons hy,List.append_assoc];rfl
theorem M19_L2_eq(F:Nat)(r:Tprovenderref6_reader)(hF:1000010<=F)(hT:∀t,t∈r.g.Types->t.Methods.length<=1000001)(k:Bool->List TType->Option (Bool×List TType)):∀(l:List Int) (b:Bool) (acc:List TType),(∀x,x∈l->∃y,idx r.g.Types x=some y)->acc.length+l.length<=1000000000->
  ∃d ys,M19_L2 F r k l b acc=k (b||d) (acc++ys)/\ys.length=(pick r.g.Types l).length/\(d=true<->∃t,t∈pick r.g.Types l/\¬(t.Methods.map (·.Name)).Nodup)/\(d=false->ys=(pick r.g.Types l).map sT)
 |[],b,acc,_,_=>⟨false,[],by simp[M19_L2],by simp[pick],by simp[pick],by simp[pick]⟩
 |x::l,b,acc,h,hl=>by
  obtain⟨t,ht⟩:=h x (List.mem_cons_self ..)
  simp only[List.length_cons] at hl
  have hm:=hT t (List.mem_of_getElem? (idx_some ht).2)
  obtain⟨ol,od,oe,op,os,on⟩:=M64_eq F (t.Methods.map (·.Name)) (Tprovenderref6_reader.mk r.g r.inside b) (by rw[names_len];omega) hF
  rw[names_len] at op
  have hol:=pl_len op
  have o:=pick_ord (fun x:TMethod=>x.Name) t.Methods op os
  unfold M19_L2
  simp only[jn_def]
  rw[ht,Option.bind_some,M19_L3_eq F _ _ _ (by simp;omega),List.nil_append,oe,Option.bind_some,M19_L4_eq F t _ _ _ (pl_all op) (by simp;omega),List.nil_append,if_pos (by simp;omega)]
  obtain⟨d,ys,e1,e2,e3,e4⟩:=M19_L2_eq F r hF hT k l (b||od) (acc++[TType.mk t.Name (pick t.Methods ol)]) (fun z hz=>h z (List.mem_cons_of_mem _ hz)) (by simp;omega)
  rw[pick_cons ht]
  refine⟨od||d,TType.mk t.Name (pick t.Methods ol)::ys,by rw[e1,Bool.or_assoc,List.append_assoc];rfl,by simp[e2],?_,?_⟩
  ·rw[Bool.or_eq_true,on,e3]
   constructor
   ·rintro(h|⟨u,hu,h⟩)
    ·exact⟨t,List.mem_cons_self ..,h⟩
    ·exact⟨u,List.mem_cons_of_mem _ hu,h⟩
   ·rintro⟨u,hu,h⟩
    rcases List.mem_cons.1 hu with rfl|hu
    ·exact .inl h
    ·exact .inr ⟨u,hu,h⟩
  ·intro hd
   have h1:od=false:=by cases od<;>simp_all
   have h2:d=false:=by cases d<;>simp_all
   have hnd:(t.Methods.map (·.Name)).Nodup:=Classical.byContradiction fun h=>by rw[on.2 h] at h1;simp at h1
   rw[List.map_cons,e4 h2,o.uniq (smM_ord _) (.refl _) hnd]
   rfl
theorem M19_eq(F:Nat)(r:Tprovenderref6_reader)(hn:r.g.Types.length<=1000001)(hF:1000010<=F)(hT:∀t,t∈r.g.Types->t.Methods.length<=1000001):
  ∃d ys,M19 F r=some (r.twice||d,ys)/\(d=true<->(¬(r.g.Types.map (·.Name)).Nodup\/∃t,t∈r.g.Types/\¬(t.Methods.map (·.Name)).Nodup))/\(d=false->OrdOf (·.Name) (r.g.Types.map sT) ys):=by
 obtain⟨l,d,e,p,s,n⟩:=M64_eq F (r.g.Types.map (·.Name)) r (by rw[names_len];omega) hF
 rw[names_len] at p
 have hl:=pl_len p
 have o:=pick_ord (fun x:TType=>x.Name) r.g.Types p s
 unfold M19
 rw[jn_def,M19_L1_eq F _ _ _ (by simp;omega),List.nil_append,e,Option.bind_some,jn_def]
 obtain⟨d2,ys,e1,e2,e3,e4⟩:=M19_L2_eq F r hF hT (fun(b76:Bool) (l77:List TType)=>some (b76,l77)) l (r.twice||d) [] (pl_all p) (by simp;omega)
 rw[e1,List.nil_append]
 refine⟨d||d2,ys,by rw[Bool.or_assoc],?_,?_⟩
 ·rw[Bool.or_eq_true,n,e3]
  refine or_congr Iff.rfl ⟨?_,?_⟩
  ·rintro⟨t,ht,h⟩;exact⟨t,o.1.mem_iff.1 ht,h⟩
  ·rintro⟨t,ht,h⟩;exact⟨t,o.1.mem_iff.2 ht,h⟩
 ·intro hd
  have h2:d2=false:=by cases d2<;>simp_all
  rw[e4 h2]
  exact⟨o.1.map _,List.pairwise_map.2 o.2⟩
theorem M20_L1_eq(F:Nat)(k:List Tx->Option (Bool×List TFunc)):∀(l:List TFunc) (acc:List Tx),acc.length+l.length<=1000000000->M20_L1 F k l acc=k (acc++l.map (·.Name))
 |[],acc,_=>by simp[M20_L1]
 |x::l,acc,hl=>by
  simp only[List.length_cons] at hl
  unfold M20_L1
  rw[if_pos (by simp;omega),M20_L1_eq F k l _ (by simp;omega),List.append_assoc];rfl
theorem M20_L2_eq(F:Nat)(r:Tprovenderref6_reader)(hF:1000010<=F)(hT:∀t,t∈r.g.Funcs->t.Makes.length<=1000001)(k:Bool->List TFunc->Option (Bool×List TFunc)):∀(l:List Int) (b:Bool) (acc:List TFunc),(∀x,x∈l->∃y,idx r.g.Funcs x=some y)->acc.length+l.length<=1000000000->
  ∃d,M20_L2 F r k l b acc=k (b||d) (acc++(pick r.g.Funcs l).map sF)/\(d=true<->∃t,t∈pick r.g.Funcs l/\¬t.Makes.Nodup)
 |[],b,acc,_,_=>⟨false,by simp[M20_L2,pick],by simp[pick]⟩
 |x::l,b,acc,h,hl=>by
  obtain⟨t,ht⟩:=h x (List.mem_cons_self ..)
  simp only[List.length_cons] at hl
  have hm:=hT t (List.mem_of_getElem? (idx_some ht).2)
  obtain⟨od,oe,on⟩:=M21_eq F t.Makes (Tprovenderref6_reader.mk r.g r.inside b) hm hF
  unfold M20_L2
  rw[ht,Option.bind_some,oe,Option.bind_some,if_pos (by simp;omega)]
  obtain⟨d,e1,e3⟩:=M20_L2_eq F r hF hT k l (b||od) (acc++[sF t]) (fun z hz=>h z (List.mem_cons_of_mem _ hz)) (by simp;omega)
  rw[pick_cons ht]
  refine⟨od||d,?_,?_⟩
  ·rw[show(TFunc.mk t.Name t.Component t.Calls ((b||od),srtT t.Makes).2)=sF t from rfl,e1,Bool.or_assoc,List.append_assoc];rfl
  ·rw[Bool.or_eq_true,on,e3]
   constructor
   ·rintro(h|⟨u,hu,h⟩)
    ·exact⟨t,List.mem_cons_self ..,h⟩
    ·exact⟨u,List.mem_cons_of_mem _ hu,h⟩
   ·rintro⟨u,hu,h⟩
    rcases List.mem_cons.1 hu with rfl|hu
    ·exact .inl h
    ·exact .inr ⟨u,hu,h⟩
theorem M20_eq(F:Nat)(r:Tprovenderref6_reader)(hn:r.g.Funcs.length<=1000001)(hF:1000010<=F)(hT:∀t,t∈r.g.Funcs->t.Makes.length<=1000001):
  ∃d ys,M20 F r=some (r.twice||d,ys)/\(d=true<->(¬(r.g.Funcs.map (·.Name)).Nodup\/∃t,t∈r.g.Funcs/\¬t.Makes.Nodup))/\OrdOf (·.Name) (r.g.Funcs.map sF) ys:=by
 obtain⟨l,d,e,p,s,n⟩:=M64_eq F (r.g.Funcs.map (·.Name)) r (by rw[names_len];omega) hF
 rw[names_len] at p
 have hl:=pl_len p
 have o:=pick_ord (fun x:TFunc=>x.Name) r.g.Funcs p s
 unfold M20
 rw[jn_def,M20_L1_eq F _ _ _ (by simp;omega),List.nil_append,e,Option.bind_some,jn_def]
 obtain⟨d2,e1,e3⟩:=M20_L2_eq F r hF hT (fun(b49:Bool) (l50:List TFunc)=>some (b49,l50)) l (r.twice||d) [] (pl_all p) (by simp;omega)
 rw[e1,List.nil_append]
 refine⟨d||d2,_,by rw[Bool.or_assoc],?_,o.1.map _,List.pairwise_map.2 o.2⟩
 rw[Bool.or_eq_true,n,e3]
 refine or_congr Iff.rfl ⟨?_,?_⟩
 ·rintro⟨t,ht,h⟩;exact⟨t,o.1.mem_iff.1 ht,h⟩
 ·rintro⟨t,ht,h⟩;exact⟨t,o.1.mem_iff.2 ht,h⟩
theorem M42_eq(F:Nat)(a b:Tx):M42 F a b=some (cmpS a b):=by
 unfold M42 M77 cmpS
 simp only[Option.bind_some,beq_self_eq_true,Bool.not_true,Bool.false_eq_true,if_false,bl_gt]
 split
 ·rfl
 ·split<;>rfl
theorem M41_eq(F:Nat)(x y:TMethod):M41 F x y=some (cmpS x.Name y.Name):=by unfold M41;rw[M42_eq];rfl
theorem leT_nt{a b c:Tx}(h:Op.bytesLess a b=false)(g:Op.bytesLess b c=false):Op.bytesLess a c=false:=by
 have:=leT_trans c b a (by simp[leT,g]) (by simp[leT,h])
 simpa[leT] using this
def mlt(a b:TMethod):Bool:=Op.bytesLess a.Name b.Name
theorem morder:Go.Pv.Ord (fun x y:TMethod=>some (cmpS x.Name y.Name)) mlt where
 cmp:=fun x y=>⟨_,rfl,by rw[Bool.eq_iff_iff,decide_eq_true_eq];exact cmpS_lt⟩
 irr:=fun x=>bl_irrefl _
 tr:=fun x y z h g=>bl_trans h g
 wk:=fun x y z h g=>leT_nt h g
theorem E109_L2(F:Nat)(a:Int)(k:List TMethod->Option (List TMethod)):∀(n:Nat) (j:Int) (l:List TMethod),M109_L2 F a k n j l=insG_L2 (fun x y=>some (cmpS x.Name y.Name)) F a k n j l:=by
 intro n
 induction n with
 |zero=>intros;rfl
 |succ n ih=>intro j l;simp only[M109_L2,insG_L2,ih,M41_eq]
theorem E109_L1(F:Nat)(a b:Int):∀(n:Nat) (j:Int) (l:List TMethod),M109_L1 F a b n j l=insG_L1 (fun x y=>some (cmpS x.Name y.Name)) F a b n j l:=by
 intro n
 induction n with
 |zero=>intros;rfl
 |succ n ih=>intro j l;simp only[M109_L1,insG_L1,ih,E109_L2]
theorem E109(F:Nat)(a b:Int)(l:List TMethod):M109 F a b l=insG (fun x y=>some (cmpS x.Name y.Name)) F a b l:=by unfold M109 insG;rw[E109_L1]
theorem E174_L1(F:Nat)(a b:Int):∀(n:Nat) (j:Int) (l:List TMethod),M174_L1 F a b n j l=swpG_L1 F a b n j l:=by
 intro n
 induction n with
 |zero=>intros;rfl
 |succ n ih=>intro j l;simp only[M174_L1,swpG_L1,ih]
theorem E174(F:Nat)(a b n:Int)(l:List TMethod):M174 F a b n l=swpG F a b n l:=by unfold M174 swpG;rw[E174_L1]
theorem E139_L1(F:Nat)(m:Int)(k:Int->List TMethod->Option (List TMethod)):∀(n:Nat) (i j:Int) (l:List TMethod),M139_L1 F m k n i j l=rotG_L1 F m k n i j l:=by
 intro n
 induction n with
 |zero=>intros;rfl
 |succ n ih=>intro i j l;simp only[M139_L1,rotG_L1,ih,E174]
theorem E139(F:Nat)(a m b:Int)(l:List TMethod):M139 F a m b l=rotG F a m b l:=by unfold M139 rotG;simp only[E139_L1,E174]
theorem E110_L2(F:Nat)(e:Int)(k:List TMethod->Option (List TMethod)):∀(n:Nat) (j:Int) (l:List TMethod),M110_L2 F e k n j l=symG_L2 F e k n j l:=by
 intro n
 induction n with
 |zero=>intros;rfl
 |succ n ih=>intro j l;simp only[M110_L2,symG_L2,ih]
theorem E110_L4(F:Nat)(e:Int)(k:List TMethod->Option (List TMethod)):∀(n:Nat) (j:Int) (l:List TMethod),M110_L4 F e k n j l=symG_L4 F e k n j l:=by
 intro n
 induction n with
 |zero=>intros;rfl
 |succ n ih=>intro j l;simp only[M110_L4,symG_L4,ih]
theorem E110_L1(F:Nat)(a:Int)(l:List TMethod)(k:Int->Option (List TMethod)):∀(n:Nat) (i j:Int),M110_L1 F a l k n i j=symG_L1 (fun x y=>some (cmpS x.Name y.Name)) F a l k n i j:=by
 intro n
 induction n with
 |zero=>intros;rfl
 |succ n ih=>intro i j;simp only[M110_L1,symG_L1,ih,M41_eq]
theorem E110_L3(F:Nat)(a:Int)(l:List TMethod)(k:Int->Option (List TMethod)):∀(n:Nat) (i j:Int),M110_L3 F a l k n i j=symG_L3 (fun x y=>some (cmpS x.Name y.Name)) F a l k n i j:=by
 intro n
 induction n with
 |zero=>intros;rfl
 |succ n ih=>intro i j;simp only[M110_L3,symG_L3,ih,M41_eq]
theorem E110_L5(F:Nat)(a m b:Int)(l:List TMethod)(k:Int->Option (List TMethod)):∀(n:Nat) (i j:Int),M110_L5 F a m b l k n i j=symG_L5 (fun x y=>some (cmpS x.Name y.Name)) F a m b l k n i j:=by
 intro n
 induction n with
 |zero=>intros;rfl
 |succ n ih=>intro i j;simp only[M110_L5,symG_L5,ih,M41_eq]
theorem E110:∀(F:Nat) (a m b:Int) (l:List TMethod),M110 F a m b l=symG (fun x y=>some (cmpS x.Name y.Name)) F a m b l:=by
 intro F
 induction F with
 |zero=>intros;rfl
 |succ F ih=>intro a m b l;simp only[M110,symG,M110_B,symG_B,ih,E110_L1,E110_L2,E110_L3,E110_L4,E110_L5,E139]
theorem E76_L3(F:Nat)(a n:Int)(k:Int->List TMethod->Option (List TMethod)):∀(f:Nat) (i j:Int) (l:List TMethod),M76_L3 F a n k f i j l=stbG_L3 (fun x y=>some (cmpS x.Name y.Name)) F a n k f i j l:=by
 intro f
 induction f with
 |zero=>intros;rfl
 |succ f ih=>intro i j l;simp only[M76_L3,stbG_L3,ih,E110]
theorem E76_L2(F:Nat)(a:Int):∀(f:Nat) (i:Int) (l:List TMethod),M76_L2 F a f i l=stbG_L2 (fun x y=>some (cmpS x.Name y.Name)) F a f i l:=by
 intro f
 induction f with
 |zero=>intros;rfl
 |succ f ih=>intro i l;simp only[M76_L2,stbG_L2,ih,E110,E76_L3]
theorem E76_L1(F:Nat)(a:Int)(k:Int->List TMethod->Option (List TMethod)):∀(f:Nat) (i j:Int) (l:List TMethod),M76_L1 F a k f i j l=stbG_L1 (fun x y=>some (cmpS x.Name y.Name)) F a k f i j l:=by
 intro f
 induction f with
 |zero=>intros;rfl
 |succ f ih=>intro i j l;simp only[M76_L1,stbG_L1,ih,E109]
theorem stb76(F:Nat)(n:Int)(l:List TMethod):M76 F n l=stbG (fun x y=>some (cmpS x.Name y.Name)) F n l:=by
 unfold M76 stbG;simp only[E76_L1,E76_L2,E109]
theorem M40_eq(F:Nat)(l:List TMethod)(hl:l.length<=1000001)(hF:3000000<=F):∃y,M40 F l=some y/\OrdOf (·.Name) l y:=by
 unfold M40
 rw[stb76]
 obtain⟨R,r1,r2,r3⟩:=stbG_eq morder F l (by omega) (by omega)
 rw[r1,Option.bind_some,if_pos r3.length_eq]
 exact⟨R,rfl,r3,r2.imp fun {a b} h=>by unfold mlt at h;simp[leT,h]⟩
def adj:List Tx->Bool
 |a::b::l=>b==a||adj (b::l)
 |_=>false
theorem adj_short{l:List Tx}(h:l.length<=1):adj l=false:=by
 rcases l with _|⟨a,_|⟨b,l⟩⟩
 ·rfl
 ·rfl
 ·simp at h
theorem adj_nodup:∀{l:List Tx},l.Pairwise (fun a b=>leT a b=true)->(adj l=true<->¬l.Nodup)
 |[],_=>by simp[adj]
 |[a],_=>by simp[adj]
 |a::b::l,h=>by
  have h1:=List.pairwise_cons.1 h
  have h2:=List.pairwise_cons.1 h1.2
  rw[adj,Bool.or_eq_true,adj_nodup h1.2,List.nodup_cons (a:=a)]
  have:b=a<->a∈b::l:=by
   constructor
   ·rintro rfl;exact List.mem_cons_self ..
   ·intro hm
    rcases List.mem_cons.1 hm with e|hm
    ·exact e.symm
    ·exact leT_anti (h2.1 a hm) (h1.1 b (List.mem_cons_self ..))
  rw[beq_iff_eq,this]
  by_cases g:a∈b::l<;>simp[g]
theorem nmE:True:=trivial
theorem drop_two{α:Type}{nm:α->Tx}{a:List α}{i:Nat}(_:True)(h1:1<=i)(h:i<a.length):(a.map nm).drop (i - 1)=nm a[i - 1]::nm a[i]::(a.map nm).drop (i+1):=by
 have e1:(a.map nm).drop (i - 1)=(a.map nm)[i - 1]'(by simp;omega)::(a.map nm).drop (i - 1+1):=List.drop_eq_getElem_cons (by simp;omega)
 have e2:(a.map nm).drop i=(a.map nm)[i]'(by simp;omega)::(a.map nm).drop (i+1):=List.drop_eq_getElem_cons (by simp;omega)
 rw[e1,show i - 1+1=i by omega,e2]
 simp
theorem drop_one_at{α:Type}{nm:α->Tx}{a:List α}{i:Nat}(_:True)(h:i<a.length):(a.map nm).drop i=nm a[i]::(a.map nm).drop (i+1):=by
 have e2:(a.map nm).drop i=(a.map nm)[i]'(by simp;omega)::(a.map nm).drop (i+1):=List.drop_eq_getElem_cons (by simp;omega)
 rw[e2]
 simp
theorem M43_L1_eq(F:Nat)(a:List TMethod)(ha:a.length<=1000001)(k:Option Bool):∀(n i:Nat),1<=i->1<=n->a.length<n+i->M43_L1 F a k n (i:Int)=if adj ((a.map (·.Name)).drop (i - 1))=true then some true else k
 |0,i,h1,h0,h2=>by omega
 |n+1,i,h1,h0,h2=>by
  unfold M43_L1
  by_cases h:i<a.length
  ·rw[if_pos (by simp;omega),idx_nat h,w64m h1 (by omega),idx_nat (show i - 1<a.length by omega)]
   simp only[M44,Option.bind_some]
   have e:(a.map (·.Name)).drop (i - 1)=a[i - 1].Name::a[i].Name::(a.map (·.Name)).drop (i+1):=drop_two nmE h1 h
   rw[e,adj]
   by_cases hc:(a[i].Name==a[i - 1].Name)=true
   ·rw[if_pos hc,if_pos (by rw[hc];rfl)]
   ·rw[if_neg hc,w64p (by omega),M43_L1_eq F a ha k n (i+1) (by omega) (by omega) (by omega),show i+1 - 1=i from rfl,drop_one_at nmE h]
    simp only[Bool.not_eq_true] at hc
    rw[hc,Bool.false_or]
  ·rw[if_neg (by simp;omega),if_neg]
   rw[adj_short (by rw[List.length_drop,List.length_map];omega)]
   simp
theorem M43_eq(F:Nat)(a:List TMethod)(ha:a.length<=1000001)(hF:1000010<=F):M43 F a=some (adj (a.map (·.Name))):=by
 unfold M43
 rw[jn_def,show(1:Int)=((1:Nat):Int) from rfl,M43_L1_eq F a ha _ F 1 (Nat.le_refl _) (by omega) (by omega),List.drop_zero]
 cases adj (a.map (·.Name))<;>rfl
theorem M57_L1_eq(F:Nat)(a:List TIface)(ha:a.length<=1000001)(k:Option Bool):∀(n i:Nat),1<=i->1<=n->a.length<n+i->M57_L1 F a k n (i:Int)=if adj ((a.map (·.Name)).drop (i - 1))=true then some true else k
 |0,i,h1,h0,h2=>by omega
 |n+1,i,h1,h0,h2=>by
  unfold M57_L1
  by_cases h:i<a.length
  ·rw[if_pos (by simp;omega),idx_nat h,w64m h1 (by omega),idx_nat (show i - 1<a.length by omega)]
   simp only[M49,Option.bind_some]
   have e:(a.map (·.Name)).drop (i - 1)=a[i - 1].Name::a[i].Name::(a.map (·.Name)).drop (i+1):=drop_two nmE h1 h
   rw[e,adj]
   by_cases hc:(a[i].Name==a[i - 1].Name)=true
   ·rw[if_pos hc,if_pos (by rw[hc];rfl)]
   ·rw[if_neg hc,w64p (by omega),M57_L1_eq F a ha k n (i+1) (by omega) (by omega) (by omega),show i+1 - 1=i from rfl,drop_one_at nmE h]
    simp only[Bool.not_eq_true] at hc
    rw[hc,Bool.false_or]
  ·rw[if_neg (by simp;omega),if_neg]
   rw[adj_short (by rw[List.length_drop,List.length_map];omega)]
   simp
theorem M57_eq(F:Nat)(a:List TIface)(ha:a.length<=1000001)(hF:1000010<=F):M57 F a=some (adj (a.map (·.Name))):=by
 unfold M57
 rw[jn_def,show(1:Int)=((1:Nat):Int) from rfl,M57_L1_eq F a ha _ F 1 (Nat.le_refl _) (by omega) (by omega),List.drop_zero]
 cases adj (a.map (·.Name))<;>rfl
theorem M58_L1_eq(F:Nat)(a:List TType)(ha:a.length<=1000001)(k:Option Bool):∀(n i:Nat),1<=i->1<=n->a.length<n+i->M58_L1 F a k n (i:Int)=if adj ((a.map (·.Name)).drop (i - 1))=true then some true else k
 |0,i,h1,h0,h2=>by omega
 |n+1,i,h1,h0,h2=>by
  unfold M58_L1
  by_cases h:i<a.length
  ·rw[if_pos (by simp;omega),idx_nat h,w64m h1 (by omega),idx_nat (show i - 1<a.length by omega)]
   simp only[M52,Option.bind_some]
   have e:(a.map (·.Name)).drop (i - 1)=a[i - 1].Name::a[i].Name::(a.map (·.Name)).drop (i+1):=drop_two nmE h1 h
   rw[e,adj]
   by_cases hc:(a[i].Name==a[i - 1].Name)=true
   ·rw[if_pos hc,if_pos (by rw[hc];rfl)]
   ·rw[if_neg hc,w64p (by omega),M58_L1_eq F a ha k n (i+1) (by omega) (by omega) (by omega),show i+1 - 1=i from rfl,drop_one_at nmE h]
    simp only[Bool.not_eq_true] at hc
    rw[hc,Bool.false_or]
  ·rw[if_neg (by simp;omega),if_neg]
   rw[adj_short (by rw[List.length_drop,List.length_map];omega)]
   simp
theorem M58_eq(F:Nat)(a:List TType)(ha:a.length<=1000001)(hF:1000010<=F):M58 F a=some (adj (a.map (·.Name))):=by
 unfold M58
 rw[jn_def,show(1:Int)=((1:Nat):Int) from rfl,M58_L1_eq F a ha _ F 1 (Nat.le_refl _) (by omega) (by omega),List.drop_zero]
 cases adj (a.map (·.Name))<;>rfl
theorem M59_L1_eq(F:Nat)(a:List TFunc)(ha:a.length<=1000001)(k:Option Bool):∀(n i:Nat),1<=i->1<=n->a.length<n+i->M59_L1 F a k n (i:Int)=if adj ((a.map (·.Name)).drop (i - 1))=true then some true else k
 |0,i,h1,h0,h2=>by omega
 |n+1,i,h1,h0,h2=>by
  unfold M59_L1
  by_cases h:i<a.length
  ·rw[if_pos (by simp;omega),idx_nat h,w64m h1 (by omega),idx_nat (show i - 1<a.length by omega)]
   simp only[M55,Option.bind_some]
   have e:(a.map (·.Name)).drop (i - 1)=a[i - 1].Name::a[i].Name::(a.map (·.Name)).drop (i+1):=drop_two nmE h1 h
   rw[e,adj]
   by_cases hc:(a[i].Name==a[i - 1].Name)=true
   ·rw[if_pos hc,if_pos (by rw[hc];rfl)]
   ·rw[if_neg hc,w64p (by omega),M59_L1_eq F a ha k n (i+1) (by omega) (by omega) (by omega),show i+1 - 1=i from rfl,drop_one_at nmE h]
    simp only[Bool.not_eq_true] at hc
    rw[hc,Bool.false_or]
  ·rw[if_neg (by simp;omega),if_neg]
   rw[adj_short (by rw[List.length_drop,List.length_map];omega)]
   simp
theorem M59_eq(F:Nat)(a:List TFunc)(ha:a.length<=1000001)(hF:1000010<=F):M59 F a=some (adj (a.map (·.Name))):=by
 unfold M59
 rw[jn_def,show(1:Int)=((1:Nat):Int) from rfl,M59_L1_eq F a ha _ F 1 (Nat.le_refl _) (by omega) (by omega),List.drop_zero]
 cases adj (a.map (·.Name))<;>rfl
theorem M46_L1_eq(F:Nat)(a:List Tx)(ha:a.length<=1000001)(k:Option Bool):∀(n i:Nat),1<=i->1<=n->a.length<n+i->M46_L1 F a k n (i:Int)=if adj ((a.map (fun x=>x)).drop (i - 1))=true then some true else k
 |0,i,h1,h0,h2=>by omega
 |n+1,i,h1,h0,h2=>by
  unfold M46_L1
  by_cases h:i<a.length
  ·rw[if_pos (by simp;omega),idx_nat h,w64m h1 (by omega),idx_nat (show i - 1<a.length by omega)]
   simp only[M47,Option.bind_some]
   have e:(a.map (fun x=>x)).drop (i - 1)=a[i - 1]::a[i]::(a.map (fun x=>x)).drop (i+1):=drop_two nmE h1 h
   rw[e,adj]
   by_cases hc:(a[i]==a[i - 1])=true
   ·rw[if_pos hc,if_pos (by rw[hc];rfl)]
   ·rw[if_neg hc,w64p (by omega),M46_L1_eq F a ha k n (i+1) (by omega) (by omega) (by omega),show i+1 - 1=i from rfl,drop_one_at nmE h]
    simp only[Bool.not_eq_true] at hc
    rw[hc,Bool.false_or]
  ·rw[if_neg (by simp;omega),if_neg]
   rw[adj_short (by rw[List.length_drop,List.length_map];omega)]
   simp
theorem M46_eq(F:Nat)(a:List Tx)(ha:a.length<=1000001)(hF:1000010<=F):M46 F a=some (adj (a.map (fun x=>x))):=by
 unfold M46
 rw[jn_def,show(1:Int)=((1:Nat):Int) from rfl,M46_L1_eq F a ha _ F 1 (Nat.le_refl _) (by omega) (by omega),List.drop_zero]
 cases adj (a.map (fun x=>x))<;>rfl
theorem M45_eq(F:Nat)(l:List Tx)(h:l.length<=1000001):M45 F l=some (srtT l):=by unfold M45;rw[if_pos (by omega),tsort_eq]
theorem nilq_same{α:Type}{l:List α}{k:Bool->Option (List α)}(h:k true=some [])(h':k false=some l):nilq l.length k=some l:=by
 unfold nilq
 split
 ·exact h'
 ·rename_i hn
  have:l=[]:=List.length_eq_zero_iff.1 (Classical.not_not.1 hn)
  subst this
  rw[h,h',if_pos rfl]
theorem M82_eq(F:Nat)(l:List Tx)(h:l.length<=1000001):M82 F l=some l:=nilq_same (by simp) (by simp;omega)
theorem M85_eq(F:Nat)(l:List TMethod)(h:l.length<=1000001):M85 F l=some l:=nilq_same (by simp) (by simp;omega)
theorem M88_eq(F:Nat)(l:List TCall)(h:l.length<=1000001):M88 F l=some l:=nilq_same (by simp) (by simp;omega)
theorem M50_eq(F:Nat)(x:TIface)(h:x.Methods.length<=1000001):M50 F x=some x:=by unfold M50;rw[M82_eq F _ h];rfl
theorem M53_eq(F:Nat)(x:TType)(h:x.Methods.length<=1000001):M53 F x=some x:=by unfold M53;rw[M85_eq F _ h];rfl
theorem M56_eq(F:Nat)(x:TFunc)(h:x.Calls.length<=1000001)(h':x.Makes.length<=1000001):M56 F x=some x:=by unfold M56;rw[M88_eq F _ h,Option.bind_some,M82_eq F _ h'];rfl
theorem srtQ_ord{α:Type}{nm:α->Tx}{cmp:α->α->Option Int}(hc:∀x y,cmp x y=some (cmpS (nm x) (nm y))){l:List α}(hl:l.length<=1000001):∃s,srtQ cmp l=some s/\OrdOf nm l s:=by
 have hlt:∀x y,cltM cmp x y=Op.bytesLess (nm x) (nm y):=by
  intro x y
  unfold cltM
  rw[hc]
  rw[Bool.eq_iff_iff,decide_eq_true_eq];exact cmpS_lt
 have h1:swoM cmp l=true:=by
  unfold swoM
  refine List.all_eq_true.2 fun x _=>?_
  rw[Bool.and_eq_true]
  refine⟨by rw[hlt,bl_irrefl];rfl,List.all_eq_true.2 fun y _=>?_⟩
  rw[Bool.and_eq_true]
  refine⟨by rw[hc];rfl,List.all_eq_true.2 fun z _=>?_⟩
  rw[hlt,hlt,hlt]
  cases e1:Op.bytesLess (nm x) (nm y)<;>cases e2:Op.bytesLess (nm y) (nm z)
  ·rw[leT_nt e1 e2];rfl
  ·simp
  ·simp
  ·rw[bl_trans e1 e2];rfl
 obtain⟨s,hs⟩:=srtQ_some h1 (show l.length<4611686018427387904 by omega)
 obtain⟨p,q⟩:=srtQ_both hs
 exact⟨s,hs,p,q.imp fun {a b} h=>by rw[hlt] at h;simp[leT,h]⟩
theorem M48_L1_eq(F:Nat)(k:List TIface->Option (List TIface)):∀(l acc:List TIface),(∀x,x∈l->x.Methods.length<=1000001)->acc.length+l.length<=1000000000->M48_L1 F k l acc=k (acc++l)
 |[],acc,_,_=>by simp[M48_L1]
 |x::l,acc,h,hl=>by
  simp only[List.length_cons] at hl
  have h0:=h x (List.mem_cons_self ..)
  unfold M48_L1
  rw[M50_eq F x h0,Option.bind_some,if_pos (by simp;omega),M48_L1_eq F k l _ (fun z hz=>h z (List.mem_cons_of_mem _ hz)) (by simp;omega),List.append_assoc];rfl
theorem M81_eq(F:Nat)(x y:TIface):M81 F x y=some (cmpS x.Name y.Name):=by unfold M81 M49;simp only[Option.bind_some,M42_eq]
theorem M48_eq(F:Nat)(l:List TIface)(h:∀x,x∈l->x.Methods.length<=1000001)(hl:l.length<=1000001):∃s,M48 F l=some s/\OrdOf (·.Name) l s:=by
 obtain⟨s,e,o⟩:=srtQ_ord (nm:=fun x:TIface=>x.Name) (cmp:=fun x y=>M81 F x y) (fun x y=>M81_eq F x y) hl
 unfold M48 M80
 rw[jn_def,M48_L1_eq F _ _ _ h (by simp;omega),List.nil_append,e,Option.bind_some,if_pos o.1.length_eq]
 exact⟨s,rfl,o⟩
theorem M51_L1_eq(F:Nat)(k:List TType->Option (List TType)):∀(l acc:List TType),(∀x,x∈l->x.Methods.length<=1000001)->acc.length+l.length<=1000000000->M51_L1 F k l acc=k (acc++l)
 |[],acc,_,_=>by simp[M51_L1]
 |x::l,acc,h,hl=>by
  simp only[List.length_cons] at hl
  have h0:=h x (List.mem_cons_self ..)
  unfold M51_L1
  rw[M53_eq F x h0,Option.bind_some,if_pos (by simp;omega),M51_L1_eq F k l _ (fun z hz=>h z (List.mem_cons_of_mem _ hz)) (by simp;omega),List.append_assoc];rfl
theorem M84_eq(F:Nat)(x y:TType):M84 F x y=some (cmpS x.Name y.Name):=by unfold M84 M52;simp only[Option.bind_some,M42_eq]
theorem M51_eq(F:Nat)(l:List TType)(h:∀x,x∈l->x.Methods.length<=1000001)(hl:l.length<=1000001):∃s,M51 F l=some s/\OrdOf (·.Name) l s:=by
 obtain⟨s,e,o⟩:=srtQ_ord (nm:=fun x:TType=>x.Name) (cmp:=fun x y=>M84 F x y) (fun x y=>M84_eq F x y) hl
 unfold M51 M83
 rw[jn_def,M51_L1_eq F _ _ _ h (by simp;omega),List.nil_append,e,Option.bind_some,if_pos o.1.length_eq]
 exact⟨s,rfl,o⟩
theorem M54_L1_eq(F:Nat)(k:List TFunc->Option (List TFunc)):∀(l acc:List TFunc),(∀x,x∈l->x.Calls.length<=1000001/\x.Makes.length<=1000001)->acc.length+l.length<=1000000000->M54_L1 F k l acc=k (acc++l)
 |[],acc,_,_=>by simp[M54_L1]
 |x::l,acc,h,hl=>by
  simp only[List.length_cons] at hl
  have h0:=h x (List.mem_cons_self ..)
  unfold M54_L1
  rw[M56_eq F x h0.1 h0.2,Option.bind_some,if_pos (by simp;omega),M54_L1_eq F k l _ (fun z hz=>h z (List.mem_cons_of_mem _ hz)) (by simp;omega),List.append_assoc];rfl
theorem M87_eq(F:Nat)(x y:TFunc):M87 F x y=some (cmpS x.Name y.Name):=by unfold M87 M55;simp only[Option.bind_some,M42_eq]
theorem M54_eq(F:Nat)(l:List TFunc)(h:∀x,x∈l->x.Calls.length<=1000001/\x.Makes.length<=1000001)(hl:l.length<=1000001):∃s,M54 F l=some s/\OrdOf (·.Name) l s:=by
 obtain⟨s,e,o⟩:=srtQ_ord (nm:=fun x:TFunc=>x.Name) (cmp:=fun x y=>M87 F x y) (fun x y=>M87_eq F x y) hl
 unfold M54 M86
 rw[jn_def,M54_L1_eq F _ _ _ h (by simp;omega),List.nil_append,e,Option.bind_some,if_pos o.1.length_eq]
 exact⟨s,rfl,o⟩
theorem idx_mid{α:Type}(d r:List α)(x:α):idx (d++x::r) (d.length:Int)=some x:=by
 rw[idx_nat (by simp)];simp
theorem set_mid{α:Type}(d r:List α)(x y:α):(d++x::r).set ((d.length:Int)).toNat y=d++y::r:=by
 rw[Int.toNat_natCast];simp
abbrev R14:=Option (Bool×List TIface×List TType×List TFunc×List Tx)
theorem M14_L1_eq(F:Nat)(hF:3000000<=F)(k:Bool->List TType->R14):∀(rest done:List TType) (b:Bool),(∀t,t∈rest->t.Methods.length<=1000001)->done.length+rest.length<=1000001->
  ∃b' ys,M14_L1 F k rest.length (done.length:Int) b (done++rest)=k b' (done++ys)/\ys.map (·.Name)=rest.map (·.Name)/\(∀y,y∈ys->y.Methods.length<=1000001)/\(b'=true<->b=true\/∃t,t∈rest/\¬(t.Methods.map (·.Name)).Nodup)/\(b'=false->ys=rest.map sT)
 |[],done,b,_,_=>⟨b,[],by simp[M14_L1],rfl,by simp,by simp,by simp⟩
 |x::rest,done,b,h,hl=>by
  have hx:=h x (List.mem_cons_self ..)
  have hr:=fun t ht=>h t (List.mem_cons_of_mem _ ht)
  simp only[List.length_cons] at hl
  obtain⟨y,ey,oy⟩:=M40_eq F x.Methods hx hF
  have hy:=oy.1.length_eq
  rw[List.length_cons]
  unfold M14_L1
  simp only[jn_def]
  rw[idx_mid,Option.bind_some,ey,Option.bind_some,if_pos hy,set_mid,M43_eq F y (by omega) (by omega),Option.bind_some,if_pos hy.symm]
  have fin:∀b1:Bool,(b1=true<->b=true\/¬(x.Methods.map (·.Name)).Nodup)->∃b' ys,M14_L1 F k rest.length ((done.length:Int)+1) b1 (done++TType.mk x.Name y::rest)=k b' (done++ys)/\ys.map (·.Name)=(x::rest).map (·.Name)/\(∀y,y∈ys->y.Methods.length<=1000001)/\(b'=true<->b=true\/∃t,t∈x::rest/\¬(t.Methods.map (·.Name)).Nodup)/\(b'=false->ys=(x::rest).map sT):=by
   intro b1 hb1
   obtain⟨b',ys,e1,e2,e3,e4,e5⟩:=M14_L1_eq F hF k rest (done++[TType.mk x.Name y]) b1 hr (by simp;omega)
   rw[List.append_assoc,List.append_assoc,show(((done++[TType.mk x.Name y]).length:Nat):Int)=(done.length:Int)+1 by simp] at e1
   refine⟨b',TType.mk x.Name y::ys,e1,by simp[e2],?_,?_,?_⟩
   ·intro z hz
    rcases List.mem_cons.1 hz with rfl|hz
    ·show y.length<=_;omega
    ·exact e3 z hz
   ·rw[e4,hb1]
    constructor
    ·rintro((h|h)|⟨t,ht,h⟩)
     ·exact .inl h
     ·exact .inr ⟨x,List.mem_cons_self ..,h⟩
     ·exact .inr ⟨t,List.mem_cons_of_mem _ ht,h⟩
    ·rintro(h|⟨t,ht,h⟩)
     ·exact .inl (.inl h)
     ·rcases List.mem_cons.1 ht with e|ht
      ·exact .inl (.inr (e ▸ h))
      ·exact .inr ⟨t,ht,h⟩
   ·intro hb
    rw[e5 hb,List.map_cons]
    have hnd:(x.Methods.map (·.Name)).Nodup:=Classical.byContradiction fun h=>by
     have:=e4.2 (.inl (hb1.2 (.inr h)))
     rw[hb] at this;cases this
    rw[oy.uniq (smM_ord _) (.refl _) hnd]
    rfl
  cases b with
  |true=>
   rw[if_pos rfl]
   exact fin true (by simp)
  |false=>
   rw[if_neg (by simp),if_pos hy.symm]
   refine fin _ ?_
   have:=adj_nodup (l:=y.map (·.Name)) (List.pairwise_map.2 oy.2)
   rw[this,(oy.1.map (·.Name)).nodup_iff]
   simp
theorem M14_L2_eq(F:Nat)(hF:3000000<=F)(k:Bool->List TFunc->R14):∀(rest done:List TFunc) (b:Bool),(∀t,t∈rest->t.Makes.length<=1000001)->done.length+rest.length<=1000001->
  ∃b',M14_L2 F k rest.length (done.length:Int) b (done++rest)=k b' (done++rest.map sF)/\(b'=true<->b=true\/∃t,t∈rest/\¬t.Makes.Nodup)
 |[],done,b,_,_=>⟨b,by simp[M14_L2],by simp⟩
 |x::rest,done,b,h,hl=>by
  have hx:=h x (List.mem_cons_self ..)
  have hr:=fun t ht=>h t (List.mem_cons_of_mem _ ht)
  simp only[List.length_cons] at hl
  have hy:=(srtT_perm x.Makes).length_eq
  rw[List.length_cons]
  unfold M14_L2
  simp only[jn_def]
  rw[idx_mid,Option.bind_some,M45_eq F _ hx,Option.bind_some,if_pos hy,set_mid,idx_mid,Option.bind_some]
  have fin:∀b1:Bool,(b1=true<->b=true\/¬x.Makes.Nodup)->∃b',M14_L2 F k rest.length ((done.length:Int)+1) b1 (done++sF x::rest)=k b' (done++(x::rest).map sF)/\(b'=true<->b=true\/∃t,t∈x::rest/\¬t.Makes.Nodup):=by
   intro b1 hb1
   obtain⟨b',e1,e4⟩:=M14_L2_eq F hF k rest (done++[sF x]) b1 hr (by simp;omega)
   rw[List.append_assoc,List.append_assoc,show(((done++[sF x]).length:Nat):Int)=(done.length:Int)+1 by simp] at e1
   refine⟨b',e1,?_⟩
   rw[e4,hb1]
   constructor
   ·rintro((h|h)|⟨t,ht,h⟩)
    ·exact .inl h
    ·exact .inr ⟨x,List.mem_cons_self ..,h⟩
    ·exact .inr ⟨t,List.mem_cons_of_mem _ ht,h⟩
   ·rintro(h|⟨t,ht,h⟩)
    ·exact .inl (.inl h)
    ·rcases List.mem_cons.1 ht with e|ht
     ·exact .inl (.inr (e ▸ h))
     ·exact .inr ⟨t,ht,h⟩
  rw[if_pos hy.symm,if_pos hy.symm]
  cases b with
  |true=>
   rw[if_pos rfl]
   exact fin true (by simp)
  |false=>
   rw[if_neg (by simp),M46_eq F _ (by show(srtT x.Makes).length<=_;omega) (by omega),Option.bind_some]
   refine fin _ ?_
   have:=adj_nodup (l:=srtT x.Makes) (srtT_srt _)
   rw[List.map_id',this,(srtT_perm x.Makes).nodup_iff]
   simp
structure Good(q:Sto):Prop where
 m:∀t,t∈q.2.2.1->(t.Methods.map (·.Name)).Nodup
 k:∀t,t∈q.2.2.2.1->t.Makes.Nodup
 i:(q.2.1.map (·.Name)).Nodup
 t:(q.2.2.1.map (·.Name)).Nodup
 f:(q.2.2.2.1.map (·.Name)).Nodup
 e:q.2.2.2.2.Nodup
theorem ord_adj{α:Type}{nm:α->Tx}{xs ys:List α}(o:OrdOf nm xs ys):adj (ys.map nm)=true<->¬(xs.map nm).Nodup:=by
 rw[adj_nodup (List.pairwise_map.2 o.2),(o.1.map nm).nodup_iff]
theorem M14_eq(F:Nat)(hF:3000000<=F)(q:Sto){n:Nat}(h:Inv n q)(hn:n<=1000001):
  ∃ok I T G E,M14 F q.1 q.2.1 q.2.2.1 q.2.2.2.1 q.2.2.2.2=some (ok,I,T,G,E)/\(ok=true<->Good q)/\(ok=true->OrdOf (·.Name) q.2.1 I/\OrdOf (·.Name) (q.2.2.1.map sT) T/\OrdOf (·.Name) (q.2.2.2.1.map sF) G/\E=srtT q.2.2.2.2):=by
 have hhi:=h.hi;have hht:=h.ht;have hhf:=h.hf;have hhe:=h.he
 unfold M14
 simp only[jn_def]
 rw[Int.toNat_natCast,Int.toNat_natCast]
 obtain⟨b1,T1,e1,n1,l1,d1,s1⟩:=M14_L1_eq F hF (fun(b83:Bool) (l84:List TType)=>M14_L2 F (fun(b107:Bool) (l108:List TFunc)=>(M48 F q.2.1).bind fun y132=>(M51 F l84).bind fun y134=>(M54 F l108).bind fun y136=>(M45 F q.2.2.2.2).bind fun y138=>if y138.length=q.2.2.2.2.length then if (!b107)=true then (M57 F y132).bind fun y142=>if (!y142)=true then (M58 F y134).bind fun y145=>if (!y145)=true then (M59 F y136).bind fun y148=>if (!y148)=true then (M46 F y138).bind fun y151=>some ((!y151),y132,y134,y136,y138)
 else some (false,y132,y134,y136,y138)
 else some (false,y132,y134,y136,y138)
 else some (false,y132,y134,y136,y138)
 else some (false,y132,y134,y136,y138) else none) q.2.2.2.1.length 0 b83 q.2.2.2.1) q.2.2.1 [] false (fun t ht=>by have:=(h.htt t ht).2.1;omega) (by simp;omega)
 rw[List.nil_append,List.nil_append,List.length_nil] at e1
 rw[show((0:Nat):Int)=0 from rfl] at e1
 rw[e1]
 obtain⟨b2,e2,d2⟩:=M14_L2_eq F hF (fun(b107:Bool) (l108:List TFunc)=>(M48 F q.2.1).bind fun y132=>(M51 F T1).bind fun y134=>(M54 F l108).bind fun y136=>(M45 F q.2.2.2.2).bind fun y138=>if y138.length=q.2.2.2.2.length then if (!b107)=true then (M57 F y132).bind fun y142=>if (!y142)=true then (M58 F y134).bind fun y145=>if (!y145)=true then (M59 F y136).bind fun y148=>if (!y148)=true then (M46 F y138).bind fun y151=>some ((!y151),y132,y134,y136,y138)
 else some (false,y132,y134,y136,y138)
 else some (false,y132,y134,y136,y138)
 else some (false,y132,y134,y136,y138)
 else some (false,y132,y134,y136,y138) else none) q.2.2.2.1 [] b1 (fun t ht=>by have:=(h.htf t ht).2.2.2.1;omega) (by simp;omega)
 rw[List.nil_append,List.nil_append,List.length_nil] at e2
 rw[show((0:Nat):Int)=0 from rfl] at e2
 rw[e2]
 have lT:T1.length=q.2.2.1.length:=by simpa using congrArg List.length n1
 obtain⟨I,eI,oI⟩:=M48_eq F q.2.1 (fun x hx=>(h.hti x hx).2.1) (by omega)
 obtain⟨T,eT,oT⟩:=M51_eq F T1 l1 (by omega)
 obtain⟨G,eG,oG⟩:=M54_eq F (q.2.2.2.1.map sF) (fun x hx=>by
  obtain⟨y,hy,rfl⟩:=List.mem_map.1 hx
  have h1:=h.htf y hy
  have h2:=(srtT_perm y.Makes).length_eq
  exact⟨by show y.Calls.length<=_;omega,by show(srtT y.Makes).length<=_;omega⟩) (by rw[List.length_map];omega)
 have lE:=(srtT_perm q.2.2.2.2).length_eq
 have lI:=oI.1.length_eq
 have lTT:=oT.1.length_eq
 have lG:=oG.1.length_eq
 rw[List.length_map] at lG
 rw[eI,Option.bind_some,eT,Option.bind_some,eG,Option.bind_some,M45_eq F _ (by omega),Option.bind_some,if_pos lE,M57_eq F I (by omega) (by omega),M58_eq F T (by omega) (by omega),M59_eq F G (by omega) (by omega),M46_eq F _ (by omega) (by omega)]
 simp only[Option.bind_some]
 have aI:=ord_adj oI
 have aT:=ord_adj oT
 rw[n1] at aT
 have aG:=ord_adj oG
 rw[List.map_map,show((fun x:TFunc=>x.Name) ∘ sF)=(fun x:TFunc=>x.Name) from rfl] at aG
 have aE:adj ((srtT q.2.2.2.2).map fun x=>x)=true<->¬q.2.2.2.2.Nodup:=by rw[List.map_id',adj_nodup (srtT_srt _),(srtT_perm _).nodup_iff]
 have tT:b2=false->T1=q.2.2.1.map sT:=by
  intro hb
  refine s1 ?_
  cases hb1:b1 with
  |false=>rfl
  |true=>have:=d2.2 (.inl hb1);rw[hb] at this;cases this
 have d3:b2=true<->(∃t,t∈q.2.2.1/\¬(t.Methods.map (·.Name)).Nodup)\/∃t,t∈q.2.2.2.1/\¬t.Makes.Nodup:=by
  rw[d2,d1];simp
 have gI:adj (I.map (·.Name))=false->(q.2.1.map (·.Name)).Nodup:=fun hh=>Classical.byContradiction fun g=>by rw[aI.2 g] at hh;cases hh
 have gT:adj (T.map (·.Name))=false->(q.2.2.1.map (·.Name)).Nodup:=fun hh=>Classical.byContradiction fun g=>by rw[aT.2 g] at hh;cases hh
 have gG:adj (G.map (·.Name))=false->(q.2.2.2.1.map (·.Name)).Nodup:=fun hh=>Classical.byContradiction fun g=>by rw[aG.2 g] at hh;cases hh
 have gE:adj ((srtT q.2.2.2.2).map fun x=>x)=false->q.2.2.2.2.Nodup:=fun hh=>Classical.byContradiction fun g=>by rw[aE.2 g] at hh;cases hh
 have bad:¬Good q->∃ok I' T' G' E',some (false,I,T,G,srtT q.2.2.2.2)=some (ok,I',T',G',E')/\(ok=true<->Good q)/\(ok=true->OrdOf (·.Name) q.2.1 I'/\OrdOf (·.Name) (q.2.2.1.map sT) T'/\OrdOf (·.Name) (q.2.2.2.1.map sF) G'/\E'=srtT q.2.2.2.2):=
  fun hb=>⟨false,I,T,G,_,rfl,by simp[hb],by simp⟩
 cases hb2:b2 with
 |true=>
  rw[if_neg (by simp)]
  refine bad fun g=>?_
  rcases d3.1 hb2 with ⟨t,ht,hh⟩|⟨t,ht,hh⟩
  ·exact hh (g.m t ht)
  ·exact hh (g.k t ht)
 |false=>
  rw[if_pos (by simp)]
  have gm:∀t,t∈q.2.2.1->(t.Methods.map (·.Name)).Nodup:=fun t ht=>Classical.byContradiction fun g=>by rw[d3.2 (.inl ⟨t,ht,g⟩)] at hb2;cases hb2
  have gk:∀t,t∈q.2.2.2.1->t.Makes.Nodup:=fun t ht=>Classical.byContradiction fun g=>by rw[d3.2 (.inr ⟨t,ht,g⟩)] at hb2;cases hb2
  cases cI:adj (I.map (·.Name)) with
  |true=>rw[if_neg (by simp)];exact bad fun g=>aI.1 cI g.i
  |false=>
   rw[if_pos (by simp)]
   cases cT:adj (T.map (·.Name)) with
   |true=>rw[if_neg (by simp)];exact bad fun g=>aT.1 cT g.t
   |false=>
    rw[if_pos (by simp)]
    cases cG:adj (G.map (·.Name)) with
    |true=>rw[if_neg (by simp)];exact bad fun g=>aG.1 cG g.f
    |false=>
     rw[if_pos (by simp)]
     cases cE:adj ((srtT q.2.2.2.2).map fun x=>x) with
     |true=>exact bad fun g=>aE.1 cE g.e
     |false=>
      refine⟨true,I,T,G,_,rfl,?_,?_⟩
      ·simp only[true_iff]
       exact⟨gm,gk,gI cI,gT cT,gG cG,gE cE⟩
      ·intro _
       rw[tT hb2] at oT
       exact⟨oI,oT,oG,rfl⟩
theorem M24_L1_same(F:Nat)(a:List Tx)(k:Option Bool):∀(l:List Tx) (n:Nat),a.drop n=l->M24_L1 F a k l (n:Int)=k
 |[],_,_=>rfl
 |x::l,n,h=>by
  obtain⟨hn,hx,hd⟩:=drop_at h
  unfold M24_L1
  rw[idx_nat hn,Option.bind_some,hx,if_neg (by simp),show((n:Int)+1)=((n+1:Nat):Int) from rfl]
  exact M24_L1_same F a k l (n+1) hd
theorem M24_same(F:Nat)(a:List Tx):M24 F a a=some true:=by
 unfold M24
 rw[if_neg (by simp),jn_def]
 exact M24_L1_same F a _ a 0 rfl
theorem M23_same(F:Nat)(x:TIface):M23 F x x=some true:=by unfold M23;rw[if_pos (by simp),M24_same];rfl
theorem M27_L1_same(F:Nat)(a:List TIface)(k:Option Bool):∀(l:List TIface) (n:Nat),a.drop n=l->M27_L1 F a k l (n:Int)=k
 |[],_,_=>rfl
 |x::l,n,h=>by
  obtain⟨hn,hx,hd⟩:=drop_at h
  unfold M27_L1
  rw[idx_nat hn,Option.bind_some,hx,M23_same,Option.bind_some,if_neg (by simp),show((n:Int)+1)=((n+1:Nat):Int) from rfl]
  exact M27_L1_same F a k l (n+1) hd
theorem M27_same(F:Nat)(a:List TIface):M27 F a a=some true:=by
 unfold M27
 rw[if_neg (by simp),jn_def]
 exact M27_L1_same F a _ a 0 rfl
theorem M26_L1_same(F:Nat)(a:List TMethod)(k:Option Bool):∀(l:List TMethod) (n:Nat),a.drop n=l->M26_L1 F a k l (n:Int)=k
 |[],_,_=>rfl
 |x::l,n,h=>by
  obtain⟨hn,hx,hd⟩:=drop_at h
  unfold M26_L1
  rw[idx_nat hn,Option.bind_some,hx,if_neg (by simp),show((n:Int)+1)=((n+1:Nat):Int) from rfl]
  exact M26_L1_same F a k l (n+1) hd
theorem M26_same(F:Nat)(a:List TMethod):M26 F a a=some true:=by
 unfold M26
 rw[if_neg (by simp),jn_def]
 exact M26_L1_same F a _ a 0 rfl
theorem M25_same(F:Nat)(x:TType):M25 F x x=some true:=by unfold M25;rw[if_pos (by simp),M26_same];rfl
theorem M28_L1_same(F:Nat)(a:List TType)(k:Option Bool):∀(l:List TType) (n:Nat),a.drop n=l->M28_L1 F a k l (n:Int)=k
 |[],_,_=>rfl
 |x::l,n,h=>by
  obtain⟨hn,hx,hd⟩:=drop_at h
  unfold M28_L1
  rw[idx_nat hn,Option.bind_some,hx,M25_same,Option.bind_some,if_neg (by simp),show((n:Int)+1)=((n+1:Nat):Int) from rfl]
  exact M28_L1_same F a k l (n+1) hd
theorem M28_same(F:Nat)(a:List TType):M28 F a a=some true:=by
 unfold M28
 rw[if_neg (by simp),jn_def]
 exact M28_L1_same F a _ a 0 rfl
theorem M67_L1_same(F:Nat)(a:List TCall)(k:Option Bool):∀(l:List TCall) (n:Nat),a.drop n=l->M67_L1 F a k l (n:Int)=k
 |[],_,_=>rfl
 |x::l,n,h=>by
  obtain⟨hn,hx,hd⟩:=drop_at h
  unfold M67_L1
  rw[idx_nat hn,Option.bind_some,hx,if_neg (by simp),show((n:Int)+1)=((n+1:Nat):Int) from rfl]
  exact M67_L1_same F a k l (n+1) hd
theorem M67_same(F:Nat)(a:List TCall):M67 F a a=some true:=by
 unfold M67
 rw[if_neg (by simp),jn_def]
 exact M67_L1_same F a _ a 0 rfl
theorem M30_same(F:Nat)(x:TFunc):M30 F x x=some true:=by unfold M30;rw[if_pos (by simp),if_pos (by simp),M67_same,Option.bind_some,if_pos rfl,M24_same];rfl
theorem M29_L1_same(F:Nat)(a:List TFunc)(k:Option Bool):∀(l:List TFunc) (n:Nat),a.drop n=l->M29_L1 F a k l (n:Int)=k
 |[],_,_=>rfl
 |x::l,n,h=>by
  obtain⟨hn,hx,hd⟩:=drop_at h
  unfold M29_L1
  rw[idx_nat hn,Option.bind_some,hx,M30_same,Option.bind_some,if_neg (by simp),show((n:Int)+1)=((n+1:Nat):Int) from rfl]
  exact M29_L1_same F a k l (n+1) hd
theorem M29_same(F:Nat)(a:List TFunc):M29 F a a=some true:=by
 unfold M29
 rw[if_neg (by simp),jn_def]
 exact M29_L1_same F a _ a 0 rfl
theorem M7_same(F:Nat)(g:TGraph):M7 F g g=some true:=by
 unfold M7
 rw[M27_same,Option.bind_some,if_pos rfl,M28_same,Option.bind_some,if_pos rfl,M29_same,Option.bind_some,if_pos rfl,M24_same];rfl
theorem okG_of{n:Nat}{q:Sto}(h:Inv n q)(hn:n<=1000001){I:List TIface}{T:List TType}{G:List TFunc}{E:List Tx}(oI:OrdOf (·.Name) q.2.1 I)(oT:OrdOf (·.Name) (q.2.2.1.map sT) T)(oG:OrdOf (·.Name) (q.2.2.2.1.map sF) G)(hE:E=srtT q.2.2.2.2):okTGraph (TGraph.mk I T G E):=by
 have hm:1000001<=maxLen:=by decide
 have hhi:=h.hi;have hht:=h.ht;have hhf:=h.hf;have hhe:=h.he
 have lI:=oI.1.length_eq
 have lT:=oT.1.length_eq
 have lG:=oG.1.length_eq
 rw[List.length_map] at lT lG
 have lE:=(srtT_perm q.2.2.2.2).length_eq
 refine⟨⟨fun x hx=>?_,by show I.length<=_;omega⟩,⟨fun x hx=>?_,by show T.length<=_;omega⟩,⟨fun x hx=>?_,by show G.length<=_;omega⟩,⟨fun x hx=>?_,by show E.length<=_;rw[hE];omega⟩,trivial⟩
 ·obtain⟨a1,a2,a3⟩:=h.hti x (oI.1.mem_iff.1 hx)
  exact⟨by omega,⟨fun y hy=>by have:=a3 y hy;show y.length<=_;omega,by omega⟩,trivial⟩
 ·obtain⟨t,ht,rfl⟩:=List.mem_map.1 (oT.1.mem_iff.1 hx)
  obtain⟨a1,a2,a3⟩:=h.htt t ht
  have lm:=(smM_ord t.Methods).1
  have ll:=lm.length_eq
  refine⟨by show t.Name.length<=_;omega,⟨fun y hy=>?_,by show(smM t.Methods).length<=_;omega⟩,trivial⟩
  have:=a3 y (lm.mem_iff.1 hy)
  exact⟨by omega,by omega,trivial⟩
 ·obtain⟨t,ht,rfl⟩:=List.mem_map.1 (oG.1.mem_iff.1 hx)
  obtain⟨a1,a2,a3,a4,a5,a6⟩:=h.htf t ht
  have lm:=srtT_perm t.Makes
  have ll:=lm.length_eq
  refine⟨by show t.Name.length<=_;omega,by show t.Component.length<=_;omega,⟨fun y hy=>?_,by show t.Calls.length<=_;omega⟩,⟨fun y hy=>?_,by show(srtT t.Makes).length<=_;omega⟩,trivial⟩
  ·obtain⟨b1,b2,b3,b4⟩:=a5 y hy
   refine⟨?_,by omega,by omega,by omega,trivial⟩
   rcases b1 with e|e<;>(rw[e];decide)
  ·have:=a6 y (lm.mem_iff.1 hy)
   show y.length<=_;omega
 ·have hx:x∈E:=hx
  rw[hE] at hx
  have:=h.hte x ((srtT_perm _).mem_iff.1 hx)
  show x.length<=_;omega
def ans(g:TGraph):TGraph×Int×Int:=if (chk false g != 0)=true then (G0,0,chk false g) else (g,0,0)
theorem read_eq(F:Nat)(hF:3000000<=F)(s:Tx):∃r,M5 F s=some r/\M6 F s=some r:=by
 unfold M5 M6
 rcases Classical.em (¬s.length<=1000000) with hs|hs
 ·have e:decide ((s.length:Int)>1000000)=true:=by simp;omega
  rw[if_pos e,if_pos e]
  exact⟨_,rfl,rfl⟩
 replace hs:=Classical.not_not.1 hs
 have e:¬decide ((s.length:Int)>1000000)=true:=by simp;omega
 rw[if_neg e,if_neg e,M11_eq F s _ hs,Option.bind_some,Option.bind_some]
 have hl:=split_len s 10
 have hx:∀x,x∈Lib.split s [10]->x.length<=1000000:=fun x h=>Nat.le_trans (split_mem h) hs
 have h0:Inv 0 ((0,[],[],[],[]):Sto):=⟨.inl rfl,by simp,by simp,by simp,by simp,by simp,by simp,by simp,by simp⟩
 simp only[jn_def]
 have e5:=fun k=>M5_L1_eq F k (Lib.split s [10]) 0 (0,[],[],[],[]) h0 (by omega) hx
 have e6:=fun k=>M6_L1_eq F k (Lib.split s [10]) 0 (0,[],[],[],[]) h0 (by omega) hx
 simp only[show insOf 0=([]:Tx) from rfl,show((0:Nat):Int)=0 from rfl] at e5 e6
 rw[e5,e6]
 cases hq:runS (Lib.split s [10]) 0 (0,[],[],[],[]) with
 |inl j=>exact⟨_,rfl,rfl⟩
 |inr q=>
  have hi:=runS_inv _ _ _ _ h0 hx hq
  have hn:0+(Lib.split s [10]).length<=1000001:=by omega
  simp only[]
  have hhi:=hi.hi;have hht:=hi.ht;have hhf:=hi.hf;have hhe:=hi.he
  obtain⟨ok,I,T,G,E,eM,hok,hof⟩:=M14_eq F hF q hi hn
  obtain⟨d1,I',f1,o1,n1⟩:=M18_eq F (Tprovenderref6_reader.mk (TGraph.mk q.2.1 q.2.2.1 q.2.2.2.1 q.2.2.2.2) (insOf q.1) false) (by show q.2.1.length<=_;omega) (by omega)
  obtain⟨d2,T',f2,n2,o2⟩:=M19_eq F (Tprovenderref6_reader.mk (TGraph.mk q.2.1 q.2.2.1 q.2.2.2.1 q.2.2.2.2) (insOf q.1) (false||d1)) (by show q.2.2.1.length<=_;omega) (by omega) (fun t ht=>by have:=(hi.htt t ht).2.1;omega)
  obtain⟨d3,G',f3,n3,o3⟩:=M20_eq F (Tprovenderref6_reader.mk (TGraph.mk q.2.1 q.2.2.1 q.2.2.2.1 q.2.2.2.2) (insOf q.1) (false||d1||d2)) (by show q.2.2.2.1.length<=_;omega) (by omega) (fun t ht=>by have:=(hi.htf t ht).2.2.2.1;omega)
  obtain⟨d4,f4,n4⟩:=M21_eq F q.2.2.2.2 (Tprovenderref6_reader.mk (TGraph.mk q.2.1 q.2.2.1 q.2.2.2.1 q.2.2.2.2) (insOf q.1) (false||d1||d2||d3)) (by omega) (by omega)
  rw[eM,Option.bind_some,f1,Option.bind_some,f2,Option.bind_some,f3,Option.bind_some,f4,Option.bind_some]
  simp only[] at n1 n2 n3 n4 o1 o2 o3
  by_cases hg:Good q
  ·have z1:d1=false:=by cases hd:d1 with|false=>rfl|true=>exact absurd hg.i (n1.1 hd)
   have z2:d2=false:=by
    cases hd:d2 with
    |false=>rfl
    |true=>exact(n2.1 hd).elim (fun h=>absurd hg.t h) (fun⟨t,ht,h⟩=>absurd (hg.m t ht) h)
   have z3:d3=false:=by
    cases hd:d3 with
    |false=>rfl
    |true=>exact(n3.1 hd).elim (fun h=>absurd hg.f h) (fun⟨t,ht,h⟩=>absurd (hg.k t ht) h)
   have z4:d4=false:=by cases hd:d4 with|false=>rfl|true=>exact absurd hg.e (n4.1 hd)
   have zk:=hok.2 hg
   obtain⟨oI,oT,oG,oE⟩:=hof zk
   have uI:I=I':=oI.uniq o1 (.refl _) hg.i
   have uT:T=T':=oT.uniq (o2 z2) (.refl _) (by rw[List.map_map];exact hg.t)
   have uG:G=G':=oG.uniq o3 (.refl _) (by rw[List.map_map];exact hg.f)
   subst uI;subst uT;subst uG
   have hG:=okG_of hi hn oI oT oG oE
   subst oE
   refine⟨ans (TGraph.mk I T G (srtT q.2.2.2.2)),?_,?_⟩
   ·rw[if_neg (by rw[zk];simp),M15_eq F _ hG,Option.bind_some]
    unfold ans
    split<;>rfl
   ·rw[if_neg (by rw[z1,z2,z3,z4];simp),M22_eq F _ hG,Option.bind_some]
    unfold ans
    split<;>rfl
  ·have zk:ok=false:=by cases hk:ok with|false=>rfl|true=>exact absurd (hok.1 hk) hg
   refine⟨(G0,0,5),by rw[if_pos (by rw[zk];rfl)];rfl,?_⟩
   rw[if_pos]
   ·rfl
   ·apply Classical.byContradiction
    intro hh
    simp only[Bool.not_eq_true,Bool.or_eq_false_iff,Bool.false_or] at hh
    apply hg
    have w:∀{p:Prop} {d:Bool},d=false->(d=true<->¬p)->p:=fun h1 h2=>Classical.byContradiction fun h=>by rw[h2.2 h] at h1;cases h1
    have w2:∀{p:Prop} {d:Bool},d=false->(d=true<->p)->¬p:=fun h1 h2 h=>by rw[h2.2 h] at h1;cases h1
    have v2:=w2 hh.1.1.2 n2
    have v3:=w2 hh.1.2 n3
    exact⟨fun t ht=>Classical.byContradiction fun h=>v2 (.inr ⟨t,ht,h⟩),fun t ht=>Classical.byContradiction fun h=>v3 (.inr ⟨t,ht,h⟩),w hh.1.1.1 n1,Classical.byContradiction fun h=>v2 (.inl h),Classical.byContradiction fun h=>v3 (.inl h),w hh.2 n4⟩
theorem plain_3(s:Tx)(_:s.length<=maxLen):∃F,M3 F s=some true:=by
 refine⟨3000000,?_⟩
 generalize hF:3000000=F
 obtain⟨r,e1,e2⟩:=read_eq F (by omega) s
 unfold M3
 rw[e1,Option.bind_some,e2,Option.bind_some,if_pos (by simp),if_pos (by simp),M7_same,Option.bind_some,if_pos rfl]
 rfl
end Go.Proofs.YtjofofmllnpkpaaGreatDoor
namespace Go.Pv
open Go
set_option linter.unusedVariables false
def conL(f:V->Option Value):List V->Option (List Value)
 |[]=>some []
 |x::l=>match f x with|some v=>(match conL f l with|some r=>some (v::r)|none=>none)|none=>none
def conV:Nat->V->Option Value
 |0,_=>none
 |n+1,v=>match v with
  | .con v=>some v
  | .agg cs=>(match conL (conV n) cs with|some l=>some (.agg l.toArray)|none=>none)
  |_=>none
theorem conL_at{f:V->Option Value}:∀{cs:List V} {l:List Value},conL f cs=some l->l.length=cs.length/\∀(i:Nat) c v,cs[i]? = some c->l[i]? = some v->f c=some v
 |[],l,h=>by simp[conL] at h;subst h;simp
 |x::cs,l,h=>by
  simp only[conL] at h
  split at h
  ·rename_i y hy
   split at h
   ·rename_i q hq
    simp at h;subst h
    obtain⟨h1,h2⟩:=conL_at hq
    refine⟨by simp[h1],fun i c v a b=>?_⟩
    cases i with
    |zero=>simp at a b;subst a;subst b;exact hy
    |succ i=>exact h2 i c v (by simpa using a) (by simpa using b)
   ·simp at h
  ·simp at h
theorem conV_ok{m:Mem}{β:Locs}:∀{n:Nat} {v:V} {x y:Value},conV n v=some x->VRel m β v y->y=x
 |0,v,x,y,h=>by simp[conV] at h
 |n+1,v,x,y,h=>by
  intro hv
  cases v with
  |con c=>simp[conV] at h;subst h;exact hv.of_con
  |agg cs=>
   simp only[conV] at h
   split at h
   ·rename_i l hl
    simp at h;subst h
    obtain⟨vs,rfl,h2,h3⟩:=agg_inv hv
    obtain⟨a1,a2⟩:=conL_at hl
    congr 1
    apply Array.ext
    ·simp[a1,h2]
    ·intro i hi hj
     have hic:i<cs.length:=by rw[h2];exact hi
     have hil:i<l.length:=by rw[a1];exact hic
     have:=conV_ok (a2 i _ _ (List.getElem?_eq_getElem hic) (List.getElem?_eq_getElem hil)) (h3 i _ _ (List.getElem?_eq_getElem hic) (Array.getElem?_eq_getElem hi))
     simpa using this
   ·simp at h
  |_=>simp[conV] at h
theorem irel_agg{m:Mem}(l:List Value):IRel m (.agg (l.map .con)) (.agg l.toArray):=.agg (by simp) fun i c v a b=>by
 simp only[List.getElem?_map,List.getElem?_toArray] at a b
 rw[b] at a
 simp at a;subst a;exact .con _
def unC:Value->V
 | .agg vs=>.agg (vs.toList.map .con)
 |v=>.con v
theorem unC_ok{m:Mem}{β:Locs}(v:Value):VRel m β (unC v) v:=by
 cases v with
 |agg vs=>
  refine .imm (.agg (by simp) fun i c u a b=>?_)
  simp only[List.getElem?_map,Array.getElem?_toList,b,Option.map_some,Option.some.injEq] at a
  subst a;exact .con _
 |_=>exact .imm (.con _)
section
variable{K:Ctx}{Q:Post}{S S':St}{ops:Array Oper}{rest:List Oper}{t:TT}{ty:TypeId}{pos:String}{after:Array Edge}{g:Option (Nat×Bool)}
theorem aops_mkIface{d n:Nat}{T:TypeId}{x:Operand}{v:V}{c:Value}(hT:K.P.concrete T=true)(hw:Wants ops S ⟨some d,.makeInterface T x,ty,pos,after,g⟩ true)(hx:evl K S x=v)(hc:conV n v=some c)(hN:Nat.blt d K.N=true)
  (k:AOps K ops rest Q (S.put d (.con (.iface T c)))):AOps K ops (⟨some d,.makeInterface T x,ty,pos,after,g⟩::rest) Q S:=
 aops_val _ hw hN (fun m β w a r=>by
  have:=r.reads x
  rw[hx] at this
  have:=conV_ok hc this
  exact⟨.iface T c,by simp only[execOp,this];exact run_value (Go.run_makeInterface w T c hT),.imm (.con _)⟩) k
def clI(t:TT)(e:Env):Op->Option (Nat×List V)
 | .call c=>(match c.callee with
  | .invoke x name=>(match evC e x with
   |some (.con (.iface T v))=>(match ask t T (TF.qM name) with
    |some f=>(match evL e c.args.toList with
     |some vs=>(match frc (unC v::vs) with|some r=>some (f,r)|none=>none)
     |none=>none)
    |none=>none)
   |_=>none)
  | .value x=>(match evC e x with
   |some (.con (.func (.method name) first caps))=>(match first.toList,caps.toList with
    |[.iface T v],[]=>(match ask t T (TF.qM name) with
     |some f=>(match evL e c.args.toList with
      |some vs=>(match frc (unC v::vs) with|some r=>some (f,r)|none=>none)
      |none=>none)
     |none=>none)
    |_,_=>none)
   |_=>none)
  |_=>none)
 |_=>none
theorem evL_at{e:Env}(ha:Ag e S):∀{l:List Operand} {vs:List V},evL e l=some vs->vs=l.map (evl K S):=fun h=>(evL_ok ha h).symm
theorem clI_run0(ht:TTok K.P t){e:Env}(ha:Ag e S){o:Oper}{f:Nat}{avs:List V}(h:clI t e o.op=some (f,avs)):
  ∀m β w a,Rel K m β w a S->∃vs:Array Value,(execOp a.eval o).run K.P w=.ok (.enter f vs) w/\VRels m β avs vs:=by
 obtain⟨dst,op,ty',pos,after,g⟩:=o
 cases op<;>simp only[clI,reduceCtorEq] at h
 rename_i c
 obtain⟨callee,args,at'⟩:=c
 simp only at h
 split at h
 ·rename_i x name
  split at h
  ·rename_i T v hx
   split at h
   ·rename_i f' hm
    split at h
    ·rename_i vs hv
     split at h
     ·rename_i q hq
      simp only[Option.some.injEq,Prod.mk.injEq] at h
      obtain⟨rfl,rfl⟩:=h
      have hq:=frc_ok hq
      have hv:=evL_at (K:=K) ha hv
      have hmm:=(askM ht hm).1
      subst hq
      intro m β w a r
      have hr:=r.con (evC_ok (K:=K) ha hx)
      refine⟨#[v]++args.map a.eval,?_,?_⟩
      ·have:(execOp a.eval ⟨dst,.call ⟨.invoke x name,args,at'⟩,ty',pos,after,g⟩)=callMethod (.iface T v) name (args.map a.eval):=by
        simp only[execOp,resolve,hr,pure_bind]
        show invoke (.fn (.method name) #[]) (#[Value.iface T v]++args.map a.eval)=_
        simp only[invoke]
        rw[show(#[Value.iface T v]++args.map a.eval)[0]? = some (Value.iface T v) by rw[Array.getElem?_append_left (by simp)];rfl]
        simp only
        congr 1
        apply Array.ext'
        simp
        exact List.take_of_length_le (by simp)
       rw[this]
       exact hmm v (args.map a.eval) w
      ·refine⟨by simp[hv];omega,fun i c u h1 h2=>?_⟩
       cases i with
       |zero=>
        rw[Array.getElem?_append_left (by simp)] at h2
        simp at h1 h2;subst h1;subst h2;exact unC_ok v
       |succ i=>
        simp only[List.getElem?_cons_succ,hv,List.getElem?_map,Array.getElem?_toList] at h1
        rw[Array.getElem?_append_right (by simp)] at h2
        simp only[List.size_toArray,List.length_cons,List.length_nil,Nat.zero_add,Nat.add_sub_cancel,Array.getElem?_map] at h2
        cases ho:args[i]? with
        |none=>rw[ho] at h1;simp at h1
        |some y=>
         rw[ho] at h1 h2
         simp at h1 h2
         subst h1;subst h2
         exact r.reads y
     ·simp at h
    ·simp at h
   ·simp at h
  ·simp at h
 ·rename_i x
  split at h
  ·rename_i name first caps hx
   split at h
   ·rename_i T v hf1 hc1
    have hf1:=toList_one hf1
    have hc1:=toList_nil hc1
    subst hf1 hc1
    split at h
    ·rename_i f' hm
     split at h
     ·rename_i vs hv
      split at h
      ·rename_i q hq
       simp only[Option.some.injEq,Prod.mk.injEq] at h
       obtain⟨rfl,rfl⟩:=h
       have hq:=frc_ok hq
       have hv:=evL_at (K:=K) ha hv
       have hmm:=(askM ht hm).1
       subst hq
       intro m β w a r
       have hr:=r.con (evC_ok (K:=K) ha hx)
       refine⟨#[v]++args.map a.eval,?_,?_⟩
       ·have:(execOp a.eval ⟨dst,.call ⟨.value x,args,at'⟩,ty',pos,after,g⟩)=callMethod (.iface T v) name (args.map a.eval):=by
         simp only[execOp,resolve,hr,Deferred.ofValue,pure_bind]
         show invoke (.fn (.method name) #[]) (#[Value.iface T v]++args.map a.eval)=_
         simp only[invoke]
         rw[show(#[Value.iface T v]++args.map a.eval)[0]? = some (Value.iface T v) by rw[Array.getElem?_append_left (by simp)];rfl]
         simp only
         congr 1
         apply Array.ext'
         simp
         exact List.take_of_length_le (by simp)
        rw[this]
        exact hmm v (args.map a.eval) w
       ·refine⟨by simp[hv];omega,fun i c u h1 h2=>?_⟩
        cases i with
        |zero=>
         rw[Array.getElem?_append_left (by simp)] at h2
         simp at h1 h2;subst h1;subst h2;exact unC_ok v
        |succ i=>
         simp only[List.getElem?_cons_succ,hv,List.getElem?_map,Array.getElem?_toList] at h1
         rw[Array.getElem?_append_right (by simp)] at h2
         simp only[List.size_toArray,List.length_cons,List.length_nil,Nat.zero_add,Nat.add_sub_cancel,Array.getElem?_map] at h2
         cases ho:args[i]? with
         |none=>rw[ho] at h1;simp at h1
         |some y=>
          rw[ho] at h1 h2
          simp at h1 h2
          subst h1;subst h2
          exact r.reads y
      ·simp at h
     ·simp at h
    ·simp at h
   ·simp at h
  ·simp at h
 ·simp at h
theorem aops_mkMeth{d:Nat}{name:String}{x:Operand}{iv:Value}(hw:Wants ops S ⟨some d,.makeFunc (.method name) #[x] #[],ty,pos,after,g⟩ true)(hx:evl K S x=.con iv)(hN:Nat.blt d K.N=true)
  (k:AOps K ops rest Q (S.put d (.con (.func (.method name) #[iv] #[])))):AOps K ops (⟨some d,.makeFunc (.method name) #[x] #[],ty,pos,after,g⟩::rest) Q S:=
 aops_val _ hw hN (fun m β w a r=>⟨.func (.method name) #[iv] #[],by simp only[execOp];exact run_value (by simp[Instr.makeFunc,pure,r.con hx]),.imm (.con _)⟩) k
theorem aops_nilMeth{d:Nat}{name:String}{x:Operand}{T:TypeId}{v:Value}(hT:∀(v:Value) (w:World),(nilAhead (K.P.types.size+Made.depth) T v name).run K.P w=.ok (some false) w)(hw:Wants ops S ⟨some d,.nilCheck x,ty,pos,after,g⟩ true)(hx:evl K S x=.con (.func (.method name) #[.iface T v] #[]))(hN:Nat.blt d K.N=true)
  (k:AOps K ops rest Q (S.put d (.con (.func (.method name) #[.iface T v] #[])))):AOps K ops (⟨some d,.nilCheck x,ty,pos,after,g⟩::rest) Q S:=
 aops_val _ hw hN (fun m β w a r=>⟨.func (.method name) #[.iface T v] #[],by
  simp only[execOp,r.con hx]
  simp[Sem.run_bind,hT,Result.andThen,pure],.imm (.con _)⟩) k
theorem run_eqNilM{P:Program}{w:World}{T:TypeId}{x y:Operand}(neg:Bool)(hT:tyMp P T=true)(b:Option Nat):
      (do eqGuard (if neg then .neq else .eql) T x y (.map b) (.map none);binOp (if neg then .neq else .eql) T (.map b) (.map none):Sem Value).run P w=.ok (.bool (if neg then !b.isNone else b.isNone)) w:=by
  obtain⟨k,e,hu⟩:∃k e,P.underlying T=some (.map k e):=by
    unfold tyMp at hT
    split at hT
    · exact⟨_,_,‹_›⟩
    · simp at hT
  have hd:(10000:Nat)=9999+1:=rfl
  have hg:∀op:BinOp,(eqGuard op T x y (.map b) (.map none)).run P w=.ok () w:=by
    intro op;unfold eqGuard;cases op<;>simp[pure]
  have hq:(Op.equal T (.map b) (.map none)).run P w=.ok b.isNone w:=by
    rw[Op.equal,Op.maxDepth,hd,Op.equalIn]
    simp only[Sem.run_bind,run_underlying hu,Result.andThen_ok]
    cases b<;>rfl
  rw[Sem.run_bind,hg,Result.andThen_ok]
  cases neg
  · simp only[Bool.false_eq_true,if_false,binOp,Sem.run_bind,hq,Result.andThen_ok];rfl
  · simp only[if_true,binOp,Sem.run_bind,hq,Result.andThen_ok];rfl
def mapNil:V->Option Bool
 | .con (.map none)=>some true
 | .map _=>some false
 |_=>none
theorem aops_eqNilM{d:Nat}{x y:Operand}{T T':TypeId}{v:V}{b:Bool}(neg:Bool)(hT:tyMp K.P T=true)(hw:Wants ops S ⟨some d,.binOp (if neg then .neq else .eql) T x y T',ty,pos,after,g⟩ true)
  (hx:evl K S x=v) (hv:mapNil v=some b) (hy:evl K S y=.con (.map none)) (hN:Nat.blt d K.N=true)
  (k:AOps K ops rest Q (S.put d (.con (.bool (if neg then !b else b))))):AOps K ops (⟨some d,.binOp (if neg then .neq else .eql) T x y T',ty,pos,after,g⟩::rest) Q S:=
 aops_val _ hw hN (fun m β w a r=>by
  have h:=r.reads x
  rw[hx] at h
  have key:∃o,a.eval x=.map o/\o.isNone=b:=by
   generalize a.eval x=u at h
   unfold mapNil at hv
   split at hv
   ·simp at hv;subst hv;exact⟨none,h.of_con,rfl⟩
   ·simp at hv;subst hv
    cases h with
    |imm h=>cases h
    |map hb=>exact⟨_,rfl,rfl⟩
   ·simp at hv
  obtain⟨o,ho,hb⟩:=key
  have hr:=run_eqNilM (P:=K.P) (w:=w) (x:=x) (y:=y) neg hT o
  refine⟨.bool (if neg then !b else b),?_,.imm (.con _)⟩
  simp only[execOp,ho,r.con hy]
  rw[<-hb]
  exact run_value hr) k
end
end Go.Pv
