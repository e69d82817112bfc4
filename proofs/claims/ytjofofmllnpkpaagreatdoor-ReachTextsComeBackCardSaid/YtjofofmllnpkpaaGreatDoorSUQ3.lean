/- Part of the proof: UP9, UP10, DW, UQ1, UQ2, UQ3. -/
import Derived.Test.YtjofofmllnpkpaaGreatDoorSUP8
import Derived.Lib.SplitLaws
import Derived.Lib.Join
import Derived.Lib.ItoaLen
import Derived.Lib.Atoi
namespace Go.Proofs.YtjofofmllnpkpaaGreatDoor
open Go Go.Pv
set_option linter.unusedVariables false
set_option linter.unusedSimpArgs false
set_option maxRecDepth 100000
theorem idx_mid{α:Type}(d r:List α)(x:α):idx (d++x::r) (d.length:Int)=some x:=by
 rw[idx_nat (by simp)];simp
theorem set_mid{α:Type}(d r:List α)(x y:α):(d++x::r).set ((d.length:Int)).toNat y=d++y::r:=by
 rw[Int.toNat_natCast];simp
abbrev R14:=Option (Bool×List TIface×List TType×List TFunc×List Tx)
theorem M14_L1_eq(F:Nat)(hF:3000000<=F)(k:Bool->List TType->R14):∀(rest done:List TType) (b:Bool),(∀t,t∈rest->t.Methods.length<=1000001)->done.length+rest.length<=1000001->
  ∃b' ys,M14_L1 F k rest.length (done.length:Int) b (done++rest)=k b' (done++ys)/\ys.map (·.Name)=rest.map (·.Name)/\(∀y,y∈ys->y.Methods.length<=1000001)/\(b'=true<->b=true\/∃t,t∈rest/\¬(t.Methods.map (·.Name)).Nodup)/\(b'=false->ys=rest.map sT)
 |[],done,b,_,_=>⟨b,[],by simp[M14_L1],rfl,by simp,by simp,by simp⟩
 |x::rest,done,b,h,hl=>by
  have hx:=h x (List.mem_cons_self ..)
  have hr:=fun t ht=>h t (List.mem_cons_of_mem _ ht)
  simp only[List.length_cons] at hl
  obtain⟨y,ey,oy⟩:=M40_eq F x.Methods hx hF
  have hy:=oy.1.length_eq
  rw[List.length_cons]
  unfold M14_L1
  simp only[jn_def]
  rw[idx_mid,Option.bind_some,ey,Option.bind_some,if_pos hy,set_mid,M43_eq F y (by omega) (by omega),Option.bind_some,if_pos hy.symm]
  have fin:∀b1:Bool,(b1=true<->b=true\/¬(x.Methods.map (·.Name)).Nodup)->∃b' ys,M14_L1 F k rest.length ((done.length:Int)+1) b1 (done++TType.mk x.Name y::rest)=k b' (done++ys)/\ys.map (·.Name)=(x::rest).map (·.Name)/\(∀y,y∈ys->y.Methods.length<=1000001)/\(b'=true<->b=true\/∃t,t∈x::rest/\¬(t.Methods.map (·.Name)).Nodup)/\(b'=false->ys=(x::rest).map sT):=by
   intro b1 hb1
   obtain⟨b',ys,e1,e2,e3,e4,e5⟩:=M14_L1_eq F hF k rest (done++[TType.mk x.Name y]) b1 hr (by simp;omega)
   rw[List.append_assoc,List.append_assoc,show(((done++[TType.mk x.Name y]).length:Nat):Int)=(done.length:Int)+1 by simp] at e1
   refine⟨b',TType.mk x.Name y::ys,e1,by simp[e2],?_,?_,?_⟩
   ·intro z hz
    rcases List.mem_cons.1 hz with rfl|hz
    ·show y.length<=_;omega
    ·exact e3 z hz
   ·rw[e4,hb1]
    constructor
    ·rintro((h|h)|⟨t,ht,h⟩)
     ·exact .inl h
     ·exact .inr ⟨x,List.mem_cons_self ..,h⟩
     ·exact .inr ⟨t,List.mem_cons_of_mem _ ht,h⟩
    ·rintro(h|⟨t,ht,h⟩)
     ·exact .inl (.inl h)
     ·rcases List.mem_cons.1 ht with e|ht
      ·exact .inl (.inr (e ▸ h))
      ·exact .inr ⟨t,ht,h⟩
   ·intro hb
    rw[e5 hb,List.map_cons]
    have hnd:(x.Methods.map (·.Name)).Nodup:=Classical.byContradiction fun h=>by
     have:=e4.2 (.inl (hb1.2 (.inr h)))
     rw[hb] at this;cases this
    rw[oy.uniq (smM_ord _) (.refl _) hnd]
    rfl
  cases b with
  |true=>
   rw[if_pos rfl]
   exact fin true (by simp)
  |false=>
   rw[if_neg (by simp),if_pos hy.symm]
   refine fin _ ?_
   have:=adj_nodup (l:=y.map (·.Name)) (List.pairwise_map.2 oy.2)
   rw[this,(oy.1.map (·.Name)).nodup_iff]
   simp
theorem M14_L2_eq(F:Nat)(hF:3000000<=F)(k:Bool->List TFunc->R14):∀(rest done:List TFunc) (b:Bool),(∀t,t∈rest->t.Makes.length<=1000001)->done.length+rest.length<=1000001->
  ∃b',M14_L2 F k rest.length (done.length:Int) b (done++rest)=k b' (done++rest.map sF)/\(b'=true<->b=true\/∃t,t∈rest/\¬t.Makes.Nodup)
 |[],done,b,_,_=>⟨b,by simp[M14_L2],by simp⟩
 |x::rest,done,b,h,hl=>by
  have hx:=h x (List.mem_cons_self ..)
  have hr:=fun t ht=>h t (List.mem_cons_of_mem _ ht)
  simp only[List.length_cons] at hl
  have hy:=(srtT_perm x.Makes).length_eq
  rw[List.length_cons]
  unfold M14_L2
  simp only[jn_def]
  rw[idx_mid,Option.bind_some,M45_eq F _ hx,Option.bind_some,if_pos hy,set_mid,idx_mid,Option.bind_some]
  have fin:∀b1:Bool,(b1=true<->b=true\/¬x.Makes.Nodup)->∃b',M14_L2 F k rest.length ((done.length:Int)+1) b1 (done++sF x::rest)=k b' (done++(x::rest).map sF)/\(b'=true<->b=true\/∃t,t∈x::rest/\¬t.Makes.Nodup):=by
   intro b1 hb1
   obtain⟨b',e1,e4⟩:=M14_L2_eq F hF k rest (done++[sF x]) b1 hr (by simp;omega)
   rw[List.append_assoc,List.append_assoc,show(((done++[sF x]).length:Nat):Int)=(done.length:Int)+1 by simp] at e1
   refine⟨b',e1,?_⟩
   rw[e4,hb1]
   constructor
   ·rintro((h|h)|⟨t,ht,h⟩)
    ·exact .inl h
    ·exact .inr ⟨x,List.mem_cons_self ..,h⟩
    ·exact .inr ⟨t,List.mem_cons_of_mem _ ht,h⟩
   ·rintro(h|⟨t,ht,h⟩)
    ·exact .inl (.inl h)
    ·rcases List.mem_cons.1 ht with e|ht
     ·exact .inl (.inr (e ▸ h))
     ·exact .inr ⟨t,ht,h⟩
  rw[if_pos hy.symm,if_pos hy.symm]
  cases b with
  |true=>
   rw[if_pos rfl]
   exact fin true (by simp)
  |false=>
   rw[if_neg (by simp),M46_eq F _ (by show(srtT x.Makes).length<=_;omega) (by omega),Option.bind_some]
   refine fin _ ?_
   have:=adj_nodup (l:=srtT x.Makes) (srtT_srt _)
   rw[List.map_id',this,(srtT_perm x.Makes).nodup_iff]
   simp
structure Good(q:Sto):Prop where
 m:∀t,t∈q.2.2.1->(t.Methods.map (·.Name)).Nodup
 k:∀t,t∈q.2.2.2.1->t.Makes.Nodup
 i:(q.2.1.map (·.Name)).Nodup
 t:(q.2.2.1.map (·.Name)).Nodup
 f:(q.2.2.2.1.map (·.Name)).Nodup
 e:q.2.2.2.2.Nodup
theorem ord_adj{α:Type}{nm:α->Tx}{xs ys:List α}(o:OrdOf nm xs ys):adj (ys.map nm)=true<->¬(xs.map nm).Nodup:=by
 rw[adj_nodup (List.pairwise_map.2 o.2),(o.1.map nm).nodup_iff]
theorem M14_eq(F:Nat)(hF:3000000<=F)(q:Sto){n:Nat}(h:Inv n q)(hn:n<=1000001):
  ∃ok I T G E,M14 F q.1 q.2.1 q.2.2.1 q.2.2.2.1 q.2.2.2.2=some (ok,I,T,G,E)/\(ok=true<->Good q)/\(ok=true->OrdOf (·.Name) q.2.1 I/\OrdOf (·.Name) (q.2.2.1.map sT) T/\OrdOf (·.Name) (q.2.2.2.1.map sF) G/\E=srtT q.2.2.2.2):=by
 have hhi:=h.hi;have hht:=h.ht;have hhf:=h.hf;have hhe:=h.he
 unfold M14
 simp only[jn_def]
 rw[Int.toNat_natCast,Int.toNat_natCast]
 obtain⟨b1,T1,e1,n1,l1,d1,s1⟩:=M14_L1_eq F hF (fun(b83:Bool) (l84:List TType)=>M14_L2 F (fun(b107:Bool) (l108:List TFunc)=>(M48 F q.2.1).bind fun y132=>(M51 F l84).bind fun y134=>(M54 F l108).bind fun y136=>(M45 F q.2.2.2.2).bind fun y138=>if y138.length=q.2.2.2.2.length then if (!b107)=true then (M57 F y132).bind fun y142=>if (!y142)=true then (M58 F y134).bind fun y145=>if (!y145)=true then (M59 F y136).bind fun y148=>if (!y148)=true then (M46 F y138).bind fun y151=>some ((!y151),y132,y134,y136,y138)
 else some (false,y132,y134,y136,y138)
 else some (false,y132,y134,y136,y138)
 else some (false,y132,y134,y136,y138)
 else some (false,y132,y134,y136,y138) else none) q.2.2.2.1.length 0 b83 q.2.2.2.1) q.2.2.1 [] false (fun t ht=>by have:=(h.htt t ht).2.1;omega) (by simp;omega)
 rw[List.nil_append,List.nil_append,List.length_nil] at e1
 rw[show((0:Nat):Int)=0 from rfl] at e1
 rw[e1]
 obtain⟨b2,e2,d2⟩:=M14_L2_eq F hF (fun(b107:Bool) (l108:List TFunc)=>(M48 F q.2.1).bind fun y132=>(M51 F T1).bind fun y134=>(M54 F l108).bind fun y136=>(M45 F q.2.2.2.2).bind fun y138=>if y138.length=q.2.2.2.2.length then if (!b107)=true then (M57 F y132).bind fun y142=>if (!y142)=true then (M58 F y134).bind fun y145=>if (!y145)=true then (M59 F y136).bind fun y148=>if (!y148)=true then (M46 F y138).bind fun y151=>some ((!y151),y132,y134,y136,y138)
 else some (false,y132,y134,y136,y138)
 else some (false,y132,y134,y136,y138)
 else some (false,y132,y134,y136,y138)
 else some (false,y132,y134,y136,y138) else none) q.2.2.2.1 [] b1 (fun t ht=>by have:=(h.htf t ht).2.2.2.1;omega) (by simp;omega)
 rw[List.nil_append,List.nil_append,List.length_nil] at e2
 rw[show((0:Nat):Int)=0 from rfl] at e2
 rw[e2]
 have lT:T1.length=q.2.2.1.length:=by simpa using congrArg List.length n1
 obtain⟨I,eI,oI⟩:=M48_eq F q.2.1 (fun x hx=>(h.hti x hx).2.1) (by omega)
 obtain⟨T,eT,oT⟩:=M51_eq F T1 l1 (by omega)
 obtain⟨G,eG,oG⟩:=M54_eq F (q.2.2.2.1.map sF) (fun x hx=>by
  obtain⟨y,hy,rfl⟩:=List.mem_map.1 hx
  have h1:=h.htf y hy
  have h2:=(srtT_perm y.Makes).length_eq
  exact⟨by show y.Calls.length<=_;omega,by show(srtT y.Makes).length<=_;omega⟩) (by rw[List.length_map];omega)
 have lE:=(srtT_perm q.2.2.2.2).length_eq
 have lI:=oI.1.length_eq
 have lTT:=oT.1.length_eq
 have lG:=oG.1.length_eq
 rw[List.length_map] at lG
 rw[eI,Option.bind_some,eT,Option.bind_some,eG,Option.bind_some,M45_eq F _ (by omega),Option.bind_some,if_pos lE,M57_eq F I (by omega) (by omega),M58_eq F T (by omega) (by omega),M59_eq F G (by omega) (by omega),M46_eq F _ (by omega) (by omega)]
 simp only[Option.bind_some]
 have aI:=ord_adj oI
 have aT:=ord_adj oT
 rw[n1] at aT
 have aG:=ord_adj oG
 rw[List.map_map,show((fun x:TFunc=>x.Name) ∘ sF)=(fun x:TFunc=>x.Name) from rfl] at aG
 have aE:adj ((srtT q.2.2.2.2).map fun x=>x)=true<->¬q.2.2.2.2.Nodup:=by rw[List.map_id',adj_nodup (srtT_srt _),(srtT_perm _).nodup_iff]
 have tT:b2=false->T1=q.2.2.1.map sT:=by
  intro hb
  refine s1 ?_
  cases hb1:b1 with
  |false=>rfl
  |true=>have:=d2.2 (.inl hb1);rw[hb] at this;cases this
 have d3:b2=true<->(∃t,t∈q.2.2.1/\¬(t.Methods.map (·.Name)).Nodup)\/∃t,t∈q.2.2.2.1/\¬t.Makes.Nodup:=by
  rw[d2,d1];simp
 have gI:adj (I.map (·.Name))=false->(q.2.1.map (·.Name)).Nodup:=fun hh=>Classical.byContradiction fun g=>by rw[aI.2 g] at hh;cases hh
 have gT:adj (T.map (·.Name))=false->(q.2.2.1.map (·.Name)).Nodup:=fun hh=>Classical.byContradiction fun g=>by rw[aT.2 g] at hh;cases hh
 have gG:adj (G.map (·.Name))=false->(q.2.2.2.1.map (·.Name)).Nodup:=fun hh=>Classical.byContradiction fun g=>by rw[aG.2 g] at hh;cases hh
 have gE:adj ((srtT q.2.2.2.2).map fun x=>x)=false->q.2.2.2.2.Nodup:=fun hh=>Classical.byContradiction fun g=>by rw[aE.2 g] at hh;cases hh
 have bad:¬Good q->∃ok I' T' G' E',some (false,I,T,G,srtT q.2.2.2.2)=some (ok,I',T',G',E')/\(ok=true<->Good q)/\(ok=true->OrdOf (·.Name) q.2.1 I'/\OrdOf (·.Name) (q.2.2.1.map sT) T'/\OrdOf (·.Name) (q.2.2.2.1.map sF) G'/\E'=srtT q.2.2.2.2):=
  fun hb=>⟨false,I,T,G,_,rfl,by simp[hb],by simp⟩
 cases hb2:b2 with
 |true=>
  rw[if_neg (by simp)]
  refine bad fun g=>?_
  rcases d3.1 hb2 with ⟨t,ht,hh⟩|⟨t,ht,hh⟩
  ·exact hh (g.m t ht)
  ·exact hh (g.k t ht)
 |false=>
  rw[if_pos (by simp)]
  have gm:∀t,t∈q.2.2.1->(t.Methods.map (·.Name)).Nodup:=fun t ht=>Classical.byContradiction fun g=>by rw[d3.2 (.inl ⟨t,ht,g⟩)] at hb2;cases hb2
  have gk:∀t,t∈q.2.2.2.1->t.Makes.Nodup:=fun t ht=>Classical.byContradiction fun g=>by rw[d3.2 (.inr ⟨t,ht,g⟩)] at hb2;cases hb2
  cases cI:adj (I.map (·.Name)) with
  |true=>rw[if_neg (by simp)];exact bad fun g=>aI.1 cI g.i
  |false=>
   rw[if_pos (by simp)]
   cases cT:adj (T.map (·.Name)) with
   |true=>rw[if_neg (by simp)];exact bad fun g=>aT.1 cT g.t
   |false=>
    rw[if_pos (by simp)]
    cases cG:adj (G.map (·.Name)) with
    |true=>rw[if_neg (by simp)];exact bad fun g=>aG.1 cG g.f
    |false=>
     rw[if_pos (by simp)]
     cases cE:adj ((srtT q.2.2.2.2).map fun x=>x) with
     |true=>exact bad fun g=>aE.1 cE g.e
     |false=>
      refine⟨true,I,T,G,_,rfl,?_,?_⟩
      ·simp only[true_iff]
       exact⟨gm,gk,gI cI,gT cT,gG cG,gE cE⟩
      ·intro _
       rw[tT hb2] at oT
       exact⟨oI,oT,oG,rfl⟩
theorem M24_L1_same(F:Nat)(a:List Tx)(k:Option Bool):∀(l:List Tx) (n:Nat),a.drop n=l->M24_L1 F a k l (n:Int)=k
 |[],_,_=>rfl
 |x::l,n,h=>by
  obtain⟨hn,hx,hd⟩:=drop_at h
  unfold M24_L1
  rw[idx_nat hn,Option.bind_some,hx,if_neg (by simp),show((n:Int)+1)=((n+1:Nat):Int) from rfl]
  exact M24_L1_same F a k l (n+1) hd
theorem M24_same(F:Nat)(a:List Tx):M24 F a a=some true:=by
 unfold M24
 rw[if_neg (by simp),jn_def]
 exact M24_L1_same F a _ a 0 rfl
theorem M23_same(F:Nat)(x:TIface):M23 F x x=some true:=by unfold M23;rw[if_pos (by simp),M24_same];rfl
theorem M27_L1_same(F:Nat)(a:List TIface)(k:Option Bool):∀(l:List TIface) (n:Nat),a.drop n=l->M27_L1 F a k l (n:Int)=k
 |[],_,_=>rfl
 |x::l,n,h=>by
  obtain⟨hn,hx,hd⟩:=drop_at h
  unfold M27_L1
  rw[idx_nat hn,Option.bind_some,hx,M23_same,Option.bind_some,if_neg (by simp),show((n:Int)+1)=((n+1:Nat):Int) from rfl]
  exact M27_L1_same F a k l (n+1) hd
theorem M27_same(F:Nat)(a:List TIface):M27 F a a=some true:=by
 unfold M27
 rw[if_neg (by simp),jn_def]
 exact M27_L1_same F a _ a 0 rfl
theorem M26_L1_same(F:Nat)(a:List TMethod)(k:Option Bool):∀(l:List TMethod) (n:Nat),a.drop n=l->M26_L1 F a k l (n:Int)=k
 |[],_,_=>rfl
 |x::l,n,h=>by
  obtain⟨hn,hx,hd⟩:=drop_at h
  unfold M26_L1
  rw[idx_nat hn,Option.bind_some,hx,if_neg (by simp),show((n:Int)+1)=((n+1:Nat):Int) from rfl]
  exact M26_L1_same F a k l (n+1) hd
theorem M26_same(F:Nat)(a:List TMethod):M26 F a a=some true:=by
 unfold M26
 rw[if_neg (by simp),jn_def]
 exact M26_L1_same F a _ a 0 rfl
theorem M25_same(F:Nat)(x:TType):M25 F x x=some true:=by unfold M25;rw[if_pos (by simp),M26_same];rfl
theorem M28_L1_same(F:Nat)(a:List TType)(k:Option Bool):∀(l:List TType) (n:Nat),a.drop n=l->M28_L1 F a k l (n:Int)=k
 |[],_,_=>rfl
 |x::l,n,h=>by
  obtain⟨hn,hx,hd⟩:=drop_at h
  unfold M28_L1
  rw[idx_nat hn,Option.bind_some,hx,M25_same,Option.bind_some,if_neg (by simp),show((n:Int)+1)=((n+1:Nat):Int) from rfl]
  exact M28_L1_same F a k l (n+1) hd
theorem M28_same(F:Nat)(a:List TType):M28 F a a=some true:=by
 unfold M28
 rw[if_neg (by simp),jn_def]
 exact M28_L1_same F a _ a 0 rfl
theorem M67_L1_same(F:Nat)(a:List TCall)(k:Option Bool):∀(l:List TCall) (n:Nat),a.drop n=l->M67_L1 F a k l (n:Int)=k
 |[],_,_=>rfl
 |x::l,n,h=>by
  obtain⟨hn,hx,hd⟩:=drop_at h
  unfold M67_L1
  rw[idx_nat hn,Option.bind_some,hx,if_neg (by simp),show((n:Int)+1)=((n+1:Nat):Int) from rfl]
  exact M67_L1_same F a k l (n+1) hd
theorem M67_same(F:Nat)(a:List TCall):M67 F a a=some true:=by
 unfold M67
 rw[if_neg (by simp),jn_def]
 exact M67_L1_same F a _ a 0 rfl
theorem M30_same(F:Nat)(x:TFunc):M30 F x x=some true:=by unfold M30;rw[if_pos (by simp),if_pos (by simp),M67_same,Option.bind_some,if_pos rfl,M24_same];rfl
theorem M29_L1_same(F:Nat)(a:List TFunc)(k:Option Bool):∀(l:List TFunc) (n:Nat),a.drop n=l->M29_L1 F a k l (n:Int)=k
 |[],_,_=>rfl
 |x::l,n,h=>by
  obtain⟨hn,hx,hd⟩:=drop_at h
  unfold M29_L1
  rw[idx_nat hn,Option.bind_some,hx,M30_same,Option.bind_some,if_neg (by simp),show((n:Int)+1)=((n+1:Nat):Int) from rfl]
  exact M29_L1_same F a k l (n+1) hd
theorem M29_same(F:Nat)(a:List TFunc):M29 F a a=some true:=by
 unfold M29
 rw[if_neg (by simp),jn_def]
 exact M29_L1_same F a _ a 0 rfl
theorem M7_same(F:Nat)(g:TGraph):M7 F g g=some true:=by
 unfold M7
 rw[M27_same,Option.bind_some,if_pos rfl,M28_same,Option.bind_some,if_pos rfl,M29_same,Option.bind_some,if_pos rfl,M24_same];rfl
end Go.Proofs.YtjofofmllnpkpaaGreatDoor
namespace Go.Pv
open Go
theorem index_miss{c:UInt8}:∀{s:List UInt8},c ∉ s->Lib.index s [c] = -1
 |[],_=>by simp[Lib.index]
 |b::l,h=>by
  have h1:¬b=c:=fun e=>h (by simp[e])
  have h2:c ∉ l:=fun e=>h (List.mem_cons_of_mem _ e)
  unfold Lib.index
  rw[index_miss h2]
  have h3:(c==b)=false:=by simp;exact fun e=>h1 e.symm
  simp[List.isPrefixOf,h3]
theorem index_hit{c:UInt8}:∀{w r:List UInt8},c ∉ w->Lib.index (w++c::r) [c]=(w.length:Int)
 |[],r,_=>by simp[Lib.index,List.isPrefixOf]
 |b::l,r,h=>by
  have h1:¬b=c:=fun e=>h (by simp[e])
  have h2:c ∉ l:=fun e=>h (List.mem_cons_of_mem _ e)
  rw[List.cons_append]
  unfold Lib.index
  rw[index_hit h2]
  have h3:(c==b)=false:=by simp;exact fun e=>h1 e.symm
  have h4:((l.length:Int) == -1)=false:=by rw[beq_eq_false_iff_ne];omega
  simp[List.isPrefixOf,h3,h4]
theorem split_miss{c:UInt8}{w:List UInt8}(h:c ∉ w):Lib.split w [c]=[w]:=by
 unfold Lib.split
 cases Lib.count w [c] with
 |zero=>rfl
 |succ k=>unfold Lib.splitK;rw[index_miss h];rfl
theorem split_hit{c:UInt8}{w r:List UInt8}(h:c ∉ w):Lib.split (w++c::r) [c]=w::Lib.split r [c]:=by
 unfold Lib.split
 rw[Lib.count_one,Lib.count_one]
 have:(w++c::r).count c=r.count c+1:=by
  rw[List.count_append,List.count_cons_self,List.count_eq_zero_of_not_mem h];omega
 rw[this,Lib.splitK,index_hit h]
 have h4:((w.length:Int) == -1)=false:=by rw[beq_eq_false_iff_ne];omega
 rw[h4]
 simp only[Bool.false_eq_true,if_false,Int.toNat_natCast,Nat.add_zero,List.take_left,List.length_singleton]
 rw[show(w++c::r).drop (w.length+1)=r by rw[<-List.drop_drop,List.drop_left];rfl]
def linesT(c:UInt8)(ls:List (List UInt8)):List UInt8:=ls.flatMap fun l=>l++[c]
theorem split_lines{c:UInt8}:∀{ls:List (List UInt8)},(∀l,l∈ls->c ∉ l)->Lib.split (linesT c ls) [c]=ls++[[]]
 |[],_=>split_miss (by simp[linesT])
 |l::ls,h=>by
  have e:linesT c (l::ls)=l++c::linesT c ls:=by simp[linesT]
  rw[e,split_hit (h l (by simp)),split_lines (fun x hx=>h x (List.mem_cons_of_mem _ hx))];rfl
theorem split_join{c:UInt8}:∀{w:List UInt8} {ws:List (List UInt8)},(∀l,l∈w::ws->c ∉ l)->Lib.split (Lib.join (w::ws) [c]) [c]=w::ws
 |w,[],h=>by rw[Lib.join_one];exact split_miss (h w (by simp))
 |w,v::ws,h=>by
  have e:Lib.join (w::v::ws) [c]=w++c::Lib.join (v::ws) [c]:=by
   rw[Lib.join_cons,Lib.join_cons];simp[Lib.joinTail]
  rw[e,split_hit (h w (by simp)),split_join (fun x hx=>h x (List.mem_cons_of_mem _ hx))]
theorem not_mem_join{b c:UInt8}(hbc:b≠c){ws:List (List UInt8)}(h:∀l,l∈ws->b ∉ l):b ∉ Lib.join ws [c]:=by
 cases ws with
 |nil=>simp[Lib.join_nil]
 |cons w r=>
  rw[Lib.join_cons]
  simp only[List.mem_append,not_or]
  refine⟨h w (by simp),?_⟩
  unfold Lib.joinTail
  simp only[List.mem_flatten,List.mem_map,not_exists,not_and]
  rintro l ⟨x,hx,rfl⟩ hb
  rcases List.mem_append.1 hb with hb|hb
  ·simp at hb;exact hbc hb
  ·exact h x (List.mem_cons_of_mem _ hx) hb
theorem join_len{ws:List (List UInt8)}{c:UInt8}{n:Nat}(h:∀l,l∈ws->l.length<=n):(Lib.join ws [c]).length<=ws.length*(n+1):=by
 cases ws with
 |nil=>simp[Lib.join_nil]
 |cons w r=>
  rw[Lib.join_cons,List.length_append,Lib.joinTail_length]
  have h1:=h w (by simp)
  have h2:∀l:List (List UInt8),(∀x,x∈l->x.length<=n)->Lib.lens l<=l.length*n:=by
   intro l
   induction l with
   |nil=>intro _;simp[Lib.lens]
   |cons a l ih=>
    intro hl
    have:=ih (fun x hx=>hl x (List.mem_cons_of_mem _ hx))
    have h3:=hl a (by simp)
    simp only[Lib.lens,List.map_cons,List.sum_cons,List.length_cons] at this ⊢
    rw[Nat.succ_mul];omega
  have:=h2 r (fun x hx=>h x (List.mem_cons_of_mem _ hx))
  simp only[List.length_cons,List.length_nil,Nat.add_mul,Nat.mul_add] at *
  omega
end Go.Pv
namespace Go.Proofs.YtjofofmllnpkpaaGreatDoor
open Go Go.Pv
set_option linter.unusedVariables false
set_option linter.unusedSimpArgs false
set_option maxRecDepth 100000
def wdI(x:TIface):List Tx:=sIface::x.Name::x.Methods
def wdT(t:TType):List Tx:=[sType,t.Name]
def wdM(m:TMethod):List Tx:=[sMethod,m.Name,m.Func]
def wdF(f:TFunc):List Tx:=[sFunc,f.Name,f.Component]
def wdC(c:TCall):List Tx:=(if c.Kind=2 then [sDisp,c.Target,c.Method] else [sCall,c.Target])++(if c.Feature=[] then [] else [sIf,c.Feature])
def wdK(t:Tx):List Tx:=[sMakes,t]
def wdE(t:Tx):List Tx:=[sEntry,t]
def tyL(t:TType):List (List Tx):=wdT t::t.Methods.map wdM
def fnL(f:TFunc):List (List Tx):=wdF f::(f.Calls.map wdC++f.Makes.map wdK)
def wdG(g:TGraph):List (List Tx):=g.Ifaces.map wdI++(g.Types.flatMap tyL++(g.Funcs.flatMap fnL++g.Entries.map wdE))
def lineOf(ws:List Tx):Tx:=Lib.join ws [32]
def txtL(l:List (List Tx)):Tx:=linesT 10 (l.map lineOf)
theorem txtL_cons(a:List Tx)(l:List (List Tx)):txtL (a::l)=lineOf a++[10]++txtL l:=by simp[txtL,linesT]
theorem txtL_app(a l:List (List Tx)):txtL (a++l)=txtL a++txtL l:=by simp[txtL,linesT]
theorem txtL_nil:txtL []=[]:=rfl
structure Okw(x:Tx):Prop where
 ne:x≠[]
 nl:(10:UInt8) ∉ x
 sp:(32:UInt8) ∉ x
 ha:(35:UInt8) ∉ x
 len:x.length<=100
structure OkW(l:List Tx):Prop where
 ne:l≠[]
 len:l.length<=202
 ok:∀x,x∈l->Okw x
theorem okw_nm{s:Tx}(h:nm s=true):Okw s:=by
 unfold nm at h
 simp only[Bool.and_eq_true,decide_eq_true_eq,List.all_eq_true] at h
 obtain⟨⟨h1,h2⟩,h3⟩:=h
 have no:∀c:UInt8,vis c=false->c ∉ s:=fun c hc hm=>by have:=h1 c hm;rw[hc] at this;cases this
 exact⟨by rintro rfl;simp at h2,no 10 (by decide),no 32 (by decide),no 35 (by decide),h3⟩
theorem okW_len{l:List Tx}(h:OkW l):(lineOf l++[10]).length<=21000:=by
 have:=join_len (c:=32) (fun x hx=>(h.ok x hx).len)
 have:l.length*101<=202*101:=Nat.mul_le_mul_right _ h.len
 unfold lineOf
 rw[List.length_append,List.length_singleton];omega
theorem txtL_len:∀{l:List (List Tx)},(∀x,x∈l->OkW x)->(txtL l).length<=21000*l.length
 |[],_=>by simp[txtL_nil]
 |a::l,h=>by
  rw[txtL_cons,List.length_append,List.length_cons]
  have:=okW_len (h a (by simp))
  have:=txtL_len (l:=l) (fun x hx=>h x (List.mem_cons_of_mem _ hx))
  omega
theorem jcons(w v:Tx)(ws:List Tx):Lib.join (w::v::ws) [32]=w++[32]++Lib.join (v::ws) [32]:=by
 rw[Lib.join_cons,Lib.join_cons];simp[Lib.joinTail]
theorem line2(a b:Tx):lineOf [a,b]=a++[32]++b:=by unfold lineOf;rw[jcons,Lib.join_one]
theorem line3(a b c:Tx):lineOf [a,b,c]=a++[32]++b++[32]++c:=by unfold lineOf;rw[jcons,jcons,Lib.join_one];simp
theorem line4(a b c d:Tx):lineOf [a,b,c,d]=a++[32]++b++[32]++c++[32]++d:=by unfold lineOf;rw[jcons,jcons,jcons,Lib.join_one];simp
theorem line5(a b c d e:Tx):lineOf [a,b,c,d,e]=a++[32]++b++[32]++c++[32]++d++[32]++e:=by unfold lineOf;rw[jcons,jcons,jcons,jcons,Lib.join_one];simp
theorem okw_s{x:Tx}(h:x=sIface\/x=sType\/x=sMethod\/x=sFunc\/x=sDisp\/x=sCall\/x=sMakes\/x=sEntry\/x=sIf):Okw x:=by
 rcases h with rfl|rfl|rfl|rfl|rfl|rfl|rfl|rfl|rfl<;>exact⟨by decide,by decide,by decide,by decide,by decide⟩
theorem fs_nm{g:TGraph}(R:RightG g){x:Tx}(h:fsOf g x=true):Okw x:=by
 unfold fsOf at h
 rw[List.contains_iff_mem] at h
 obtain⟨f,hf,rfl⟩:=List.mem_map.1 h
 exact okw_nm (R.f f hf).nam
theorem ts_nm{g:TGraph}(R:RightG g){x:Tx}(h:tsOf g x=true):Okw x:=by
 unfold tsOf at h
 rw[List.contains_iff_mem] at h
 obtain⟨f,hf,rfl⟩:=List.mem_map.1 h
 exact okw_nm (R.t f hf).nam
theorem ifm_get{t:Tx}{x:TIface}:∀(l:List TIface) (m:List (Tx×TIface)),mget (ifm m l) t=some x->(x∈l/\x.Name=t)\/mget m t=some x
 |[],m,h=>.inr h
 |y::l,m,h=>by
  rcases ifm_get l (mput m y.Name y) h with ⟨h1,h2⟩|h1
  ·exact .inl ⟨List.mem_cons_of_mem _ h1,h2⟩
  ·rw[mget_mput] at h1
   split at h1
   ·rename_i e
    cases h1
    exact .inl ⟨List.mem_cons_self ..,e⟩
   ·exact .inr h1
theorem okC{g:TGraph}(R:RightG g){c:TCall}(h:RightC (fsOf g) (isOf g) c):OkW (wdC c)/\(c.Kind=1/\c.Method=[]\/c.Kind=2):=by
 have ft:∀x,x∈(if c.Feature=[] then [] else [sIf,c.Feature]:List Tx)->Okw x:=by
  intro x hx
  rcases h.feat with e|e
  ·rw[if_pos e] at hx;cases hx
  ·split at hx
   ·cases hx
   ·simp only[List.mem_cons,List.not_mem_nil,or_false] at hx
    rcases hx with rfl|rfl
    ·exact okw_s (by simp)
    ·exact okw_nm e
 have fl:(if c.Feature=[] then [] else [sIf,c.Feature]:List Tx).length<=2:=by split<;>simp
 rcases h.kind with ⟨k1,k2,k3⟩|⟨k1,l,k2,k3⟩
 ·refine⟨⟨?_,?_,?_⟩,.inl ⟨k1,k3⟩⟩
  ·unfold wdC;rw[if_neg (by rw[k1];decide)];simp
  ·unfold wdC;rw[if_neg (by rw[k1];decide)];simp only[List.length_append,List.length_cons,List.length_nil];omega
  ·intro x hx
   unfold wdC at hx
   rw[if_neg (by rw[k1];decide)] at hx
   rcases List.mem_append.1 hx with hx|hx
   ·simp only[List.mem_cons,List.not_mem_nil,or_false] at hx
    rcases hx with rfl|rfl
    ·exact okw_s (by simp)
    ·exact fs_nm R k2
   ·exact ft x hx
 ·have hw:Okw c.Target/\Okw c.Method:=by
   unfold isOf at k2
   cases e:mget (ifm [] g.Ifaces) c.Target with
   |none=>rw[e] at k2;cases k2
   |some y=>
    rw[e] at k2
    cases k2
    rcases ifm_get _ _ e with ⟨h1,h2⟩|h1
    ·rw[<-h2];exact⟨okw_nm (R.i y h1).nam,okw_nm ((R.i y h1).mn _ k3)⟩
    ·cases h1
  refine⟨⟨?_,?_,?_⟩,.inr k1⟩
  ·unfold wdC;rw[if_pos k1];simp
  ·unfold wdC;rw[if_pos k1];simp only[List.length_append,List.length_cons,List.length_nil];omega
  ·intro x hx
   unfold wdC at hx
   rw[if_pos k1] at hx
   rcases List.mem_append.1 hx with hx|hx
   ·simp only[List.mem_cons,List.not_mem_nil,or_false] at hx
    rcases hx with rfl|rfl|rfl
    ·exact okw_s (by simp)
    ·exact hw.1
    ·exact hw.2
   ·exact ft x hx
theorem okI{g:TGraph}(R:RightG g){x:TIface}(h:x∈g.Ifaces):OkW (wdI x):=by
 have r:=R.i x h
 refine⟨by simp[wdI],by have:=r.len;simp[wdI];omega,fun y hy=>?_⟩
 simp only[wdI,List.mem_cons] at hy
 rcases hy with rfl|rfl|hy
 ·exact okw_s (by simp)
 ·exact okw_nm r.nam
 ·exact okw_nm (r.mn y hy)
theorem ok2{a b:Tx}(ha:Okw a)(hb:Okw b):OkW [a,b]:=⟨by simp,by simp,fun y hy=>by simp only[List.mem_cons,List.not_mem_nil,or_false] at hy;rcases hy with rfl|rfl;exact ha;exact hb⟩
theorem ok3{a b c:Tx}(ha:Okw a)(hb:Okw b)(hc:Okw c):OkW [a,b,c]:=⟨by simp,by simp,fun y hy=>by simp only[List.mem_cons,List.not_mem_nil,or_false] at hy;rcases hy with rfl|rfl|rfl;exact ha;exact hb;exact hc⟩
theorem okT'{g:TGraph}(R:RightG g){x:TType}(h:x∈g.Types):OkW (wdT x):=ok2 (okw_s (by simp)) (okw_nm (R.t x h).nam)
theorem okM{g:TGraph}(R:RightG g){x:TType}(h:x∈g.Types){m:TMethod}(hm:m∈x.Methods):OkW (wdM m):=ok3 (okw_s (by simp)) (okw_nm ((R.t x h).mn m hm).1) (fs_nm R ((R.t x h).mn m hm).2)
theorem okF{g:TGraph}(R:RightG g){x:TFunc}(h:x∈g.Funcs):OkW (wdF x):=ok3 (okw_s (by simp)) (okw_nm (R.f x h).nam) (okw_nm (R.f x h).comp)
theorem okK{g:TGraph}(R:RightG g){x:TFunc}(h:x∈g.Funcs){t:Tx}(ht:t∈x.Makes):OkW (wdK t):=ok2 (okw_s (by simp)) (ts_nm R ((R.f x h).makes t ht))
theorem okE{g:TGraph}(R:RightG g){t:Tx}(ht:t∈g.Entries):OkW (wdE t):=ok2 (okw_s (by simp)) (fs_nm R (R.e t ht))
theorem ok_tyL{g:TGraph}(R:RightG g){x:TType}(h:x∈g.Types):∀w,w∈tyL x->OkW w:=by
 intro w hw
 rcases List.mem_cons.1 hw with rfl|hw
 ·exact okT' R h
 ·obtain⟨m,hm,rfl⟩:=List.mem_map.1 hw;exact okM R h hm
theorem ok_fnL{g:TGraph}(R:RightG g){x:TFunc}(h:x∈g.Funcs):∀w,w∈fnL x->OkW w:=by
 intro w hw
 rcases List.mem_cons.1 hw with rfl|hw
 ·exact okF R h
 rcases List.mem_append.1 hw with hw|hw
 ·obtain⟨m,hm,rfl⟩:=List.mem_map.1 hw;exact(okC R ((R.f x h).calls m hm)).1
 ·obtain⟨m,hm,rfl⟩:=List.mem_map.1 hw;exact okK R h hm
theorem ok_wG{g:TGraph}(R:RightG g):∀w,w∈wdG g->OkW w:=by
 intro w hw
 rcases List.mem_append.1 hw with hw|hw
 ·obtain⟨x,hx,rfl⟩:=List.mem_map.1 hw;exact okI R hx
 rcases List.mem_append.1 hw with hw|hw
 ·obtain⟨x,hx,hw⟩:=List.mem_flatMap.1 hw;exact ok_tyL R hx w hw
 rcases List.mem_append.1 hw with hw|hw
 ·obtain⟨x,hx,hw⟩:=List.mem_flatMap.1 hw;exact ok_fnL R hx w hw
 ·obtain⟨x,hx,rfl⟩:=List.mem_map.1 hw;exact okE R hx
theorem pig:∀(a b:List Tx),a.Pairwise (fun a b=>Op.bytesLess a b=true)->(∀x,x∈a->x∈b)->a.length<=b.length
 |[],b,_,_=>by simp
 |x::a,b,hp,h=>by
  have hp:=List.pairwise_cons.1 hp
  have hx:x∈b:=h x (by simp)
  have ih:=pig a (b.erase x) hp.2 (fun y hy=>(List.mem_erase_of_ne (bl_ne (hp.1 y hy)).symm).2 (h y (by simp[hy])))
  rw[List.length_erase_of_mem hx] at ih
  have:=List.length_pos_of_mem hx
  simp only[List.length_cons]
  omega
theorem mk_len{g:TGraph}(R:RightG g){x:TFunc}(h:x∈g.Funcs):x.Makes.length<=500:=by
 have:=pig x.Makes (g.Types.map (·.Name)) (R.f x h).msrt (fun t ht=>by
  have:=(R.f x h).makes t ht
  unfold tsOf at this
  exact List.contains_iff_mem.1 this)
 rw[List.length_map] at this
 have:=R.tl
 omega
theorem en_len{g:TGraph}(R:RightG g):g.Entries.length<=3000:=by
 have:=pig g.Entries (g.Funcs.map (·.Name)) R.esrt (fun t ht=>by
  have:=R.e t ht
  unfold fsOf at this
  exact List.contains_iff_mem.1 this)
 rw[List.length_map] at this
 have:=R.fl
 omega
theorem ty_len{g:TGraph}(R:RightG g){x:TType}(h:x∈g.Types):(tyL x).length<=201:=by
 have:=(R.t x h).len
 simp[tyL];omega
theorem fn_len{g:TGraph}(R:RightG g){x:TFunc}(h:x∈g.Funcs):(fnL x).length<=701:=by
 have:=(R.f x h).len
 have:=mk_len R h
 simp[fnL];omega
theorem fm_len{α:Type}{f:α->List (List Tx)}{n:Nat}:∀{l:List α},(∀x,x∈l->(f x).length<=n)->(l.flatMap f).length<=l.length*n
 |[],_=>by simp
 |x::l,h=>by
  rw[List.flatMap_cons,List.length_append,List.length_cons]
  have:=h x (by simp)
  have:=fm_len (l:=l) (fun y hy=>h y (List.mem_cons_of_mem _ hy))
  rw[Nat.succ_mul]
  omega
theorem wG_len{g:TGraph}(R:RightG g):(wdG g).length<=3000000:=by
 have h1:=R.il
 have h2:=fm_len (f:=tyL) (l:=g.Types) (fun x hx=>ty_len R hx)
 have h3:=fm_len (f:=fnL) (l:=g.Funcs) (fun x hx=>fn_len R hx)
 have h4:=en_len R
 have h5:g.Types.length*201<=500*201:=Nat.mul_le_mul_right _ R.tl
 have h6:g.Funcs.length*701<=3000*701:=Nat.mul_le_mul_right _ R.fl
 unfold wdG
 simp only[List.length_append,List.length_map]
 omega
theorem M32_eq(F:Nat){a s:Tx}(h:s.length+a.length<=100000000000000):M32 F a s=some ():=by
 unfold M32;rw[if_pos (by omega)]
theorem M33_L1_eq(F:Nat)(k:Int->Option Tx):∀(l:List Tx) (n:Nat),(∀x,x∈l->x.length<=100)->n+100*l.length<=1000000->∃m:Nat,m<=n+100*l.length/\M33_L1 F k l (n:Int)=k (m:Int)
 |[],n,_,_=>⟨n,by simp,rfl⟩
 |x::l,n,h,hl=>by
  have hx:=h x (List.mem_cons_self ..)
  simp only[List.length_cons] at hl
  obtain⟨m,hm,e⟩:=M33_L1_eq F k l (n+x.length) (fun z hz=>h z (List.mem_cons_of_mem _ hz)) (by omega)
  refine⟨m,by simp only[List.length_cons];omega,?_⟩
  unfold M33_L1
  rw[w64_id (n:=9223372036854775807 - (n:Int)) (by omega) (by omega),if_neg (by simp;omega),w64a (by omega),e]
theorem M33_L2_eq(F:Nat)(k:Tx->Option Tx):∀(l:List Tx) (s:Tx),(∀x,x∈l->x.length<=100)->s.length+101*l.length<=1000000->M33_L2 F [32] k l s=k (s++Lib.joinTail [32] l)
 |[],s,_,_=>by simp[M33_L2,Lib.joinTail]
 |x::l,s,h,hl=>by
  have hx:=h x (List.mem_cons_self ..)
  simp only[List.length_cons] at hl
  unfold M33_L2
  rw[M32_eq F (by simp;omega),Option.bind_some,M32_eq F (by simp;omega),Option.bind_some,M33_L2_eq F k l _ (fun z hz=>h z (List.mem_cons_of_mem _ hz)) (by simp;omega)]
  simp[Lib.joinTail]
theorem M33_eq(F:Nat){l:List Tx}(h:OkW l):M33 F l [32]=some (lineOf l):=by
 have hlen:=h.len
 unfold M33
 simp only[jn_def]
 rcases l with _|⟨x,_|⟨y,r⟩⟩
 ·exact absurd rfl h.ne
 ·rw[if_neg (by simp),if_pos (by simp),show idx [x] 0=some x from rfl,Option.bind_some]
  unfold lineOf;rw[Lib.join_one]
 ·simp only[List.length_cons] at hlen
  have hx:x.length<=100:=(h.ok x (by simp)).len
  have hall:∀z,z∈x::y::r->z.length<=100:=fun z hz=>(h.ok z hz).len
  rw[if_neg (by simp;omega),if_neg (by simp;omega),if_pos (by simp)]
  have e1:w64 ((((x::y::r).length:Nat):Int) - 1)=((r.length+1:Nat):Int):=by
   rw[w64m (by simp) (by simp;omega)];simp
  rw[e1,if_pos (by omega)]
  have e3:2<=9223372036854775807 / (r.length+1):=(Nat.le_div_iff_mul_le (by omega)).2 (by omega)
  have e6:9223372036854775807 / (r.length+1)<=9223372036854775807:=Nat.div_le_self _ _
  have e2:Int.tdiv 9223372036854775807 ((r.length+1:Nat):Int)=((9223372036854775807 / (r.length+1):Nat):Int):=by
   rw[show(9223372036854775807:Int)=((9223372036854775807:Nat):Int) from rfl,<-Int.ofNat_tdiv]
  rw[e2]
  generalize 9223372036854775807 / (r.length+1)=d at e3 e6
  rw[w64_id (n:=(d:Int)) (by omega) (by omega),if_neg (by simp;omega)]
  have e4:w64 (0+w64 (((([32]:Tx).length:Nat):Int)*((r.length+1:Nat):Int)))=((r.length+1:Nat):Int):=by
   simp only[List.length_singleton]
   rw[show(((1:Nat):Int)*((r.length+1:Nat):Int))=((r.length+1:Nat):Int) by omega,w64n (by omega),Int.zero_add,w64n (by omega)]
  rw[e4]
  obtain⟨m,hm,e5⟩:=M33_L1_eq F (fun(n13:Int)=>(M71 F n13).bind fun y23=>(idx (x::y::r) 0).bind fun x25=>(M32 F x25 ([]:List UInt8)).bind fun y27=>if 1<=(x::y::r).length then M33_L2 F [32] (fun s31=>(M36 F s31).bind fun y44=>some s31) ((x::y::r).drop 1) (([]:List UInt8)++x25) else none) (x::y::r) (r.length+1) hall (by simp only[List.length_cons];omega)
  rw[e5]
  simp only[List.length_cons] at hm
  unfold M71
  rw[if_pos (by omega),Option.bind_some,show idx (x::y::r) 0=some x from rfl,Option.bind_some,M32_eq F (by simp;omega),Option.bind_some,if_pos (by simp),List.drop_one,List.tail_cons,List.nil_append,
   M33_L2_eq F _ (y::r) x (fun z hz=>hall z (List.mem_cons_of_mem _ hz)) (by simp only[List.length_cons];omega)]
  unfold M36 lineOf
  rw[Option.bind_some,Lib.join_cons]
theorem tE(x:Tx):(([101,110,116,114,121,32]:List UInt8)++x)++([10]:List UInt8)=lineOf (wdE x)++[10]:=by unfold wdE;rw[line2];rfl
theorem tK(x:Tx):(([109,97,107,101,115,32]:List UInt8)++x)++([10]:List UInt8)=lineOf (wdK x)++[10]:=by unfold wdK;rw[line2];rfl
theorem tT(x:TType):(([116,121,112,101,32]:List UInt8)++x.Name)++([10]:List UInt8)=lineOf (wdT x)++[10]:=by unfold wdT;rw[line2];rfl
theorem tM(x:TMethod):(((([109,101,116,104,111,100,32]:List UInt8)++x.Name)++([32]:List UInt8))++x.Func)++([10]:List UInt8)=lineOf (wdM x)++[10]:=by unfold wdM;rw[line3];rfl
theorem tF(x:TFunc):(((([102,117,110,99,32]:List UInt8)++x.Name)++([32]:List UInt8))++x.Component)++([10]:List UInt8)=lineOf (wdF x)++[10]:=by unfold wdF;rw[line3];rfl
theorem tI(x:TIface)(h:x.Methods≠[]):(((([105,102,97,99,101,32]:List UInt8)++x.Name)++([32]:List UInt8))++lineOf x.Methods)++([10]:List UInt8)=lineOf (wdI x)++[10]:=by
 unfold wdI lineOf
 cases e:x.Methods with
 |nil=>exact absurd e h
 |cons y l=>rw[jcons,jcons];simp[sIface]
theorem M34_eq(F:Nat){g:TGraph}(R:RightG g){c:TCall}(h:RightC (fsOf g) (isOf g) c):M34 F c=some (lineOf (wdC c)++[10]):=by
 obtain⟨hw,hk⟩:=okC R h
 have ht:c.Target.length<=100:=(hw.ok c.Target (by unfold wdC;split<;>simp)).len
 have hf:c.Feature.length<=100:=by
  by_cases e:c.Feature=[]
  ·rw[e];simp
  ·exact(hw.ok c.Feature (by unfold wdC;rw[if_neg e];simp)).len
 unfold M34
 simp only[jn_def]
 rw[if_pos (by simp;omega)]
 by_cases k2:c.Kind=2
 ·have hm:c.Method.length<=100:=(hw.ok c.Method (by unfold wdC;rw[if_pos k2];simp)).len
  rw[if_pos (by simp[k2]),if_pos (by simp;omega),if_pos (by simp;omega),if_pos (by simp;omega)]
  by_cases e:c.Feature=[]
  ·rw[if_neg (by simp[e]),if_pos (by simp;omega)]
   unfold wdC;rw[if_pos k2,if_pos e,List.append_nil,line3]
   simp[sDisp]
  ·rw[if_pos (by simpa using e),if_pos (by simp;omega),if_pos (by simp;omega),if_pos (by simp;omega)]
   unfold wdC;rw[if_pos k2,if_neg e]
   rw[show([sDisp,c.Target,c.Method]++[sIf,c.Feature]:List Tx)=[sDisp,c.Target,c.Method,sIf,c.Feature] from rfl,line5]
   simp[sDisp,sIf]
 ·rw[if_neg (by simp[k2])]
  by_cases e:c.Feature=[]
  ·rw[if_neg (by simp[e]),if_pos (by simp;omega)]
   unfold wdC;rw[if_neg k2,if_pos e,List.append_nil,line2]
   simp[sCall]
  ·rw[if_pos (by simpa using e),if_pos (by simp;omega),if_pos (by simp;omega),if_pos (by simp;omega)]
   unfold wdC;rw[if_neg k2,if_neg e]
   rw[show([sCall,c.Target]++[sIf,c.Feature]:List Tx)=[sCall,c.Target,sIf,c.Feature] from rfl,line4]
   simp[sCall,sIf]
abbrev RP:=Option (Tx×Int)
theorem M9_L7_eq(F:Nat)(k:Tx->RP):∀(l:List Tx) (s:Tx),(∀x,x∈l->OkW (wdE x))->s.length+21000*l.length<=1000000000000->M9_L7 F k l s=k (s++txtL (l.map wdE))
 |[],s,_,_=>by simp[M9_L7,txtL_nil]
 |x::l,s,h,hl=>by
  have hx:=h x (List.mem_cons_self ..)
  have h1:x.length<=100:=(hx.ok x (by simp[wdE])).len
  have h2:=okW_len hx
  simp only[List.length_cons] at hl
  unfold M9_L7
  rw[if_pos (by simp;omega),if_pos (by simp;omega),tE,M32_eq F (by omega),Option.bind_some,M9_L7_eq F k l _ (fun z hz=>h z (List.mem_cons_of_mem _ hz)) (by rw[List.length_append];omega),List.map_cons,txtL_cons,List.append_assoc]
theorem M9_L6_eq(F:Nat)(k:Tx->RP):∀(l:List Tx) (s:Tx),(∀x,x∈l->OkW (wdK x))->s.length+21000*l.length<=1000000000000->M9_L6 F k l s=k (s++txtL (l.map wdK))
 |[],s,_,_=>by simp[M9_L6,txtL_nil]
 |x::l,s,h,hl=>by
  have hx:=h x (List.mem_cons_self ..)
  have h1:x.length<=100:=(hx.ok x (by simp[wdK])).len
  have h2:=okW_len hx
  simp only[List.length_cons] at hl
  unfold M9_L6
  rw[if_pos (by simp;omega),if_pos (by simp;omega),tK,M32_eq F (by omega),Option.bind_some,M9_L6_eq F k l _ (fun z hz=>h z (List.mem_cons_of_mem _ hz)) (by rw[List.length_append];omega),List.map_cons,txtL_cons,List.append_assoc]
theorem M9_L5_eq(F:Nat){g:TGraph}(R:RightG g)(k:Tx->RP):∀(l:List TCall) (s:Tx),(∀x,x∈l->RightC (fsOf g) (isOf g) x)->s.length+21000*l.length<=1000000000000->M9_L5 F k l s=k (s++txtL (l.map wdC))
 |[],s,_,_=>by simp[M9_L5,txtL_nil]
 |x::l,s,h,hl=>by
  have hx:=h x (List.mem_cons_self ..)
  have h2:=okW_len (okC R hx).1
  simp only[List.length_cons] at hl
  unfold M9_L5
  rw[M34_eq F R hx,Option.bind_some,M32_eq F (by omega),Option.bind_some,M9_L5_eq F R k l _ (fun z hz=>h z (List.mem_cons_of_mem _ hz)) (by rw[List.length_append];omega),List.map_cons,txtL_cons,List.append_assoc]
theorem M9_L3_eq(F:Nat)(k:Tx->RP):∀(l:List TMethod) (s:Tx),(∀x,x∈l->OkW (wdM x))->s.length+21000*l.length<=1000000000000->M9_L3 F k l s=k (s++txtL (l.map wdM))
 |[],s,_,_=>by simp[M9_L3,txtL_nil]
 |x::l,s,h,hl=>by
  have hx:=h x (List.mem_cons_self ..)
  have h1:x.Name.length<=100:=(hx.ok x.Name (by simp[wdM])).len
  have h3:x.Func.length<=100:=(hx.ok x.Func (by simp[wdM])).len
  have h2:=okW_len hx
  simp only[List.length_cons] at hl
  unfold M9_L3
  rw[if_pos (by simp;omega),if_pos (by simp;omega),if_pos (by simp;omega),if_pos (by simp;omega),tM,M32_eq F (by omega),Option.bind_some,M9_L3_eq F k l _ (fun z hz=>h z (List.mem_cons_of_mem _ hz)) (by rw[List.length_append];omega),List.map_cons,txtL_cons,List.append_assoc]
theorem M9_L1_eq(F:Nat){g:TGraph}(R:RightG g)(k:Tx->RP):∀(l:List TIface) (s:Tx),(∀x,x∈l->x∈g.Ifaces)->s.length+21000*l.length<=1000000000000->M9_L1 F k l s=k (s++txtL (l.map wdI))
 |[],s,_,_=>by simp[M9_L1,txtL_nil]
 |x::l,s,h,hl=>by
  have hg:=h x (List.mem_cons_self ..)
  have hx:=okI R hg
  have r:=R.i x hg
  have h1:x.Name.length<=100:=(hx.ok x.Name (by simp[wdI])).len
  have hm:OkW x.Methods:=⟨r.ne,by have:=r.len;omega,fun y hy=>okw_nm (r.mn y hy)⟩
  have h3:=okW_len hm
  have h2:=okW_len hx
  rw[List.length_append,List.length_singleton] at h3
  simp only[List.length_cons] at hl
  unfold M9_L1
  rw[if_pos (by simp;omega),if_pos (by simp;omega),M33_eq F hm,Option.bind_some,if_pos (by simp;omega),if_pos (by simp;omega),tI x r.ne,M32_eq F (by omega),Option.bind_some,M9_L1_eq F R k l _ (fun z hz=>h z (List.mem_cons_of_mem _ hz)) (by rw[List.length_append];omega),List.map_cons,txtL_cons,List.append_assoc]
theorem M9_L2_eq(F:Nat){g:TGraph}(R:RightG g)(k:Tx->RP):∀(l:List TType) (s:Tx),(∀x,x∈l->x∈g.Types)->s.length+21000*(l.flatMap tyL).length<=1000000000000->M9_L2 F k l s=k (s++txtL (l.flatMap tyL))
 |[],s,_,_=>by simp[M9_L2,txtL_nil]
 |x::l,s,h,hl=>by
  have hg:=h x (List.mem_cons_self ..)
  have hx:=okT' R hg
  have h1:x.Name.length<=100:=(hx.ok x.Name (by simp[wdT])).len
  have h2:=okW_len hx
  rw[List.flatMap_cons,List.length_append] at hl
  have h4:(tyL x).length=x.Methods.length+1:=by simp[tyL]
  have h5:=txtL_len (l:=x.Methods.map wdM) (fun w hw=>ok_tyL R hg w (List.mem_cons_of_mem _ hw))
  rw[List.length_map] at h5
  unfold M9_L2
  simp only[jn_def]
  rw[if_pos (by simp;omega),if_pos (by simp;omega),tT,M32_eq F (by omega),Option.bind_some,M9_L3_eq F _ x.Methods _ (fun m hm=>okM R hg hm) (by rw[List.length_append];omega),M9_L2_eq F R k l _ (fun z hz=>h z (List.mem_cons_of_mem _ hz)) (by rw[List.length_append,List.length_append];omega),List.flatMap_cons,txtL_app,tyL,txtL_cons]
  simp only[List.append_assoc]
theorem M9_L4_eq(F:Nat){g:TGraph}(R:RightG g)(k:Tx->RP):∀(l:List TFunc) (s:Tx),(∀x,x∈l->x∈g.Funcs)->s.length+21000*(l.flatMap fnL).length<=1000000000000->M9_L4 F k l s=k (s++txtL (l.flatMap fnL))
 |[],s,_,_=>by simp[M9_L4,txtL_nil]
 |x::l,s,h,hl=>by
  have hg:=h x (List.mem_cons_self ..)
  have hx:=okF R hg
  have h1:x.Name.length<=100:=(hx.ok x.Name (by simp[wdF])).len
  have h3:x.Component.length<=100:=(hx.ok x.Component (by simp[wdF])).len
  have h2:=okW_len hx
  rw[List.flatMap_cons,List.length_append] at hl
  have h4:(fnL x).length=x.Calls.length+x.Makes.length+1:=by simp[fnL]
  have h5:=txtL_len (l:=x.Calls.map wdC) (fun w hw=>ok_fnL R hg w (List.mem_cons_of_mem _ (List.mem_append_left _ hw)))
  have h6:=txtL_len (l:=x.Makes.map wdK) (fun w hw=>ok_fnL R hg w (List.mem_cons_of_mem _ (List.mem_append_right _ hw)))
  rw[List.length_map] at h5 h6
  unfold M9_L4
  simp only[jn_def]
  rw[if_pos (by simp;omega),if_pos (by simp;omega),if_pos (by simp;omega),if_pos (by simp;omega),tF,M32_eq F (by omega),Option.bind_some,M9_L5_eq F R _ x.Calls _ (R.f x hg).calls (by rw[List.length_append];omega),M9_L6_eq F _ x.Makes _ (fun m hm=>okK R hg hm) (by rw[List.length_append,List.length_append];omega),M9_L4_eq F R k l _ (fun z hz=>h z (List.mem_cons_of_mem _ hz)) (by simp only[List.length_append] at *;omega),List.flatMap_cons,txtL_app,fnL,txtL_cons,txtL_app]
  simp only[List.append_assoc]
def ansP(g:TGraph):Tx×Int:=if (chk false g != 0)=true then ([],chk false g) else if 1000000<(txtL (wdG g)).length then ([],3) else (txtL (wdG g),0)
theorem wG_parts{g:TGraph}(R:RightG g):21000*g.Ifaces.length+(21000*(g.Types.flatMap tyL).length+(21000*(g.Funcs.flatMap fnL).length+21000*g.Entries.length))<=100000000000:=by
 have:=wG_len R
 unfold wdG at this
 simp only[List.length_append,List.length_map] at this
 omega
theorem txt_parts{g:TGraph}(R:RightG g):(txtL (g.Ifaces.map wdI)).length<=21000*g.Ifaces.length/\(txtL (g.Types.flatMap tyL)).length<=21000*(g.Types.flatMap tyL).length/\(txtL (g.Funcs.flatMap fnL)).length<=21000*(g.Funcs.flatMap fnL).length:=by
 refine⟨?_,?_,?_⟩
 ·have:=txtL_len (l:=g.Ifaces.map wdI) (fun w hw=>ok_wG R w (by unfold wdG;simp only[List.mem_append];exact .inl hw))
  simpa using this
 ·exact txtL_len (fun w hw=>ok_wG R w (by unfold wdG;simp only[List.mem_append];exact .inr (.inl hw)))
 ·exact txtL_len (fun w hw=>ok_wG R w (by unfold wdG;simp only[List.mem_append];exact .inr (.inr (.inl hw))))
theorem M9_eq(F:Nat)(g:TGraph)(hg:okTGraph g):M9 F g=some (ansP g):=by
 unfold M9 ansP
 rw[M15_eq F g hg,Option.bind_some]
 by_cases hc:(chk false g != 0)=true
 ·rw[if_pos hc,if_pos hc]
 ·rw[if_neg hc,if_neg hc]
  have R:=right_of (g:=g) (by simpa using hc)
  have p:=wG_parts R
  obtain⟨t1,t2,t3⟩:=txt_parts R
  simp only[jn_def]
  rw[M9_L1_eq F R _ g.Ifaces _ (fun x h=>h) (by simp;omega),M9_L2_eq F R _ g.Types _ (fun x h=>h) (by simp only[List.length_append,List.length_nil];omega),M9_L4_eq F R _ g.Funcs _ (fun x h=>h) (by simp only[List.length_append,List.length_nil];omega),M9_L7_eq F _ g.Entries _ (fun x h=>okE R h) (by simp only[List.length_append,List.length_nil];omega)]
  have e:[]++txtL (g.Ifaces.map wdI)++txtL (g.Types.flatMap tyL)++txtL (g.Funcs.flatMap fnL)++txtL (g.Entries.map wdE)=txtL (wdG g):=by
   unfold wdG
   simp only[txtL_app,List.nil_append,List.append_assoc]
  rw[e]
  unfold M35 M36
  rw[Option.bind_some]
  by_cases hl:1000000<(txtL (wdG g)).length
  ·rw[if_pos (by simp;omega),if_pos hl]
  ·rw[if_neg (by simp;omega),if_neg hl,Option.bind_some]
def toN(a:Tx):List Int:=a.map fun c=>(c.toNat:Int)
theorem M37_eq(F:Nat){l:List Tx}(a:Tx)(h:OkW l)(ha:a.length<=10000000000000):M37 F l (toN a)=some (toN (a++(lineOf l++[10]))):=by
 have hl:=okW_len h
 rw[List.length_append,List.length_singleton] at hl
 unfold M37 toN
 rw[M33_eq F h,Option.bind_some,if_pos (by simp;omega),if_pos (by simp;omega)]
 simp
abbrev RI:=Option (Tx×Int)
theorem M10_L7_eq(F:Nat)(k:List Int->RI):∀(l:List Tx) (s:Tx),(∀x,x∈l->OkW (wdE x))->s.length+21000*l.length<=1000000000000->M10_L7 F k l (toN s)=k (toN (s++txtL (l.map wdE)))
 |[],s,_,_=>by simp[M10_L7,txtL_nil]
 |x::l,s,h,hl=>by
  have hx:=h x (List.mem_cons_self ..)
  have h2:=okW_len hx
  simp only[List.length_cons] at hl
  unfold M10_L7
  rw[show([([101,110,116,114,121]:List UInt8),x]:List Tx)=wdE x from rfl,M37_eq F s hx (by omega),Option.bind_some,M10_L7_eq F k l _ (fun z hz=>h z (List.mem_cons_of_mem _ hz)) (by rw[List.length_append];omega),List.map_cons,txtL_cons,List.append_assoc]
theorem M10_L6_eq(F:Nat)(k:List Int->RI):∀(l:List Tx) (s:Tx),(∀x,x∈l->OkW (wdK x))->s.length+21000*l.length<=1000000000000->M10_L6 F k l (toN s)=k (toN (s++txtL (l.map wdK)))
 |[],s,_,_=>by simp[M10_L6,txtL_nil]
 |x::l,s,h,hl=>by
  have hx:=h x (List.mem_cons_self ..)
  have h2:=okW_len hx
  simp only[List.length_cons] at hl
  unfold M10_L6
  rw[show([([109,97,107,101,115]:List UInt8),x]:List Tx)=wdK x from rfl,M37_eq F s hx (by omega),Option.bind_some,M10_L6_eq F k l _ (fun z hz=>h z (List.mem_cons_of_mem _ hz)) (by rw[List.length_append];omega),List.map_cons,txtL_cons,List.append_assoc]
theorem M10_L5_eq(F:Nat){g:TGraph}(R:RightG g)(k:List Int->RI):∀(l:List TCall) (s:Tx),(∀x,x∈l->RightC (fsOf g) (isOf g) x)->s.length+21000*l.length<=1000000000000->M10_L5 F k l (toN s)=k (toN (s++txtL (l.map wdC)))
 |[],s,_,_=>by simp[M10_L5,txtL_nil]
 |x::l,s,h,hl=>by
  have hx:=(okC R (h x (List.mem_cons_self ..))).1
  have h2:=okW_len hx
  simp only[List.length_cons] at hl
  have fin:(M37 F (wdC x) (toN s)).bind (fun y73=>M10_L5 F k l y73)=k (toN (s++txtL ((x::l).map wdC))):=by
   rw[M37_eq F s hx (by omega),Option.bind_some,M10_L5_eq F R k l _ (fun z hz=>h z (List.mem_cons_of_mem _ hz)) (by rw[List.length_append];omega),List.map_cons,txtL_cons,List.append_assoc]
  unfold M10_L5
  simp only[jn_def]
  by_cases k2:x.Kind=2
  ·rw[if_pos (by simp[k2])]
   by_cases e:x.Feature=[]
   ·rw[if_neg (by simp[e])]
    rw[show([([100,105,115,112,97,116,99,104]:List UInt8),x.Target,x.Method]:List Tx)=wdC x by unfold wdC;rw[if_pos k2,if_pos e];rfl]
    exact fin
   ·rw[if_pos (by simpa using e),if_pos (by simp)]
    rw[show([([100,105,115,112,97,116,99,104]:List UInt8),x.Target,x.Method]++[([105,102]:List UInt8),x.Feature]:List Tx)=wdC x by unfold wdC;rw[if_pos k2,if_neg e];rfl]
    exact fin
  ·rw[if_neg (by simp[k2])]
   by_cases e:x.Feature=[]
   ·rw[if_neg (by simp[e])]
    rw[show([([99,97,108,108]:List UInt8),x.Target]:List Tx)=wdC x by unfold wdC;rw[if_neg k2,if_pos e];rfl]
    exact fin
   ·rw[if_pos (by simpa using e),if_pos (by simp)]
    rw[show([([99,97,108,108]:List UInt8),x.Target]++[([105,102]:List UInt8),x.Feature]:List Tx)=wdC x by unfold wdC;rw[if_neg k2,if_neg e];rfl]
    exact fin
theorem M10_L3_eq(F:Nat)(k:List Int->RI):∀(l:List TMethod) (s:Tx),(∀x,x∈l->OkW (wdM x))->s.length+21000*l.length<=1000000000000->M10_L3 F k l (toN s)=k (toN (s++txtL (l.map wdM)))
 |[],s,_,_=>by simp[M10_L3,txtL_nil]
 |x::l,s,h,hl=>by
  have hx:=h x (List.mem_cons_self ..)
  have h2:=okW_len hx
  simp only[List.length_cons] at hl
  unfold M10_L3
  rw[show([([109,101,116,104,111,100]:List UInt8),x.Name,x.Func]:List Tx)=wdM x from rfl,M37_eq F s hx (by omega),Option.bind_some,M10_L3_eq F k l _ (fun z hz=>h z (List.mem_cons_of_mem _ hz)) (by rw[List.length_append];omega),List.map_cons,txtL_cons,List.append_assoc]
theorem M10_L1_eq(F:Nat){g:TGraph}(R:RightG g)(k:List Int->RI):∀(l:List TIface) (s:Tx),(∀x,x∈l->x∈g.Ifaces)->s.length+21000*l.length<=1000000000000->M10_L1 F k l (toN s)=k (toN (s++txtL (l.map wdI)))
 |[],s,_,_=>by simp[M10_L1,txtL_nil]
 |x::l,s,h,hl=>by
  have hx:=okI R (h x (List.mem_cons_self ..))
  have h2:=okW_len hx
  have h3:=hx.len
  simp only[List.length_cons] at hl
  unfold M10_L1
  rw[show([([105,102,97,99,101]:List UInt8),x.Name]++x.Methods:List Tx)=wdI x from rfl,if_pos (by omega),M37_eq F s hx (by omega),Option.bind_some,M10_L1_eq F R k l _ (fun z hz=>h z (List.mem_cons_of_mem _ hz)) (by rw[List.length_append];omega),List.map_cons,txtL_cons,List.append_assoc]
theorem M10_L2_eq(F:Nat){g:TGraph}(R:RightG g)(k:List Int->RI):∀(l:List TType) (s:Tx),(∀x,x∈l->x∈g.Types)->s.length+21000*(l.flatMap tyL).length<=1000000000000->M10_L2 F k l (toN s)=k (toN (s++txtL (l.flatMap tyL)))
 |[],s,_,_=>by simp[M10_L2,txtL_nil]
 |x::l,s,h,hl=>by
  have hg:=h x (List.mem_cons_self ..)
  have hx:=okT' R hg
  have h2:=okW_len hx
  rw[List.flatMap_cons,List.length_append] at hl
  have h4:(tyL x).length=x.Methods.length+1:=by simp[tyL]
  have h5:=txtL_len (l:=x.Methods.map wdM) (fun w hw=>ok_tyL R hg w (List.mem_cons_of_mem _ hw))
  rw[List.length_map] at h5
  unfold M10_L2
  simp only[jn_def]
  rw[show([([116,121,112,101]:List UInt8),x.Name]:List Tx)=wdT x from rfl,M37_eq F s hx (by omega),Option.bind_some,M10_L3_eq F _ x.Methods _ (fun m hm=>okM R hg hm) (by rw[List.length_append];omega),M10_L2_eq F R k l _ (fun z hz=>h z (List.mem_cons_of_mem _ hz)) (by rw[List.length_append,List.length_append];omega),List.flatMap_cons,txtL_app,tyL,txtL_cons]
  simp only[List.append_assoc]
theorem M10_L4_eq(F:Nat){g:TGraph}(R:RightG g)(k:List Int->RI):∀(l:List TFunc) (s:Tx),(∀x,x∈l->x∈g.Funcs)->s.length+21000*(l.flatMap fnL).length<=1000000000000->M10_L4 F k l (toN s)=k (toN (s++txtL (l.flatMap fnL)))
 |[],s,_,_=>by simp[M10_L4,txtL_nil]
 |x::l,s,h,hl=>by
  have hg:=h x (List.mem_cons_self ..)
  have hx:=okF R hg
  have h2:=okW_len hx
  rw[List.flatMap_cons,List.length_append] at hl
  have h4:(fnL x).length=x.Calls.length+x.Makes.length+1:=by simp[fnL]
  have h5:=txtL_len (l:=x.Calls.map wdC) (fun w hw=>ok_fnL R hg w (List.mem_cons_of_mem _ (List.mem_append_left _ hw)))
  have h6:=txtL_len (l:=x.Makes.map wdK) (fun w hw=>ok_fnL R hg w (List.mem_cons_of_mem _ (List.mem_append_right _ hw)))
  rw[List.length_map] at h5 h6
  unfold M10_L4
  simp only[jn_def]
  rw[show([([102,117,110,99]:List UInt8),x.Name,x.Component]:List Tx)=wdF x from rfl,M37_eq F s hx (by omega),Option.bind_some,M10_L5_eq F R _ x.Calls _ (R.f x hg).calls (by rw[List.length_append];omega),M10_L6_eq F _ x.Makes _ (fun m hm=>okK R hg hm) (by rw[List.length_append,List.length_append];omega),M10_L4_eq F R k l _ (fun z hz=>h z (List.mem_cons_of_mem _ hz)) (by simp only[List.length_append] at *;omega),List.flatMap_cons,txtL_app,fnL,txtL_cons,txtL_app]
  simp only[List.append_assoc]
theorem toN_back(a:Tx):(toN a).map (fun n=>UInt8.ofNat n.toNat)=a:=by
 unfold toN
 rw[List.map_map]
 conv=>rhs;rw[<-List.map_id a]
 apply List.map_congr_left
 intro c _
 simp
theorem M10_eq(F:Nat)(g:TGraph)(hg:okTGraph g):M10 F g=some (ansP g):=by
 unfold M10 ansP
 rw[M22_eq F g hg,Option.bind_some]
 by_cases hc:(chk false g != 0)=true
 ·rw[if_pos hc,if_pos hc]
 ·rw[if_neg hc,if_neg hc]
  have R:=right_of (g:=g) (by simpa using hc)
  have p:=wG_parts R
  obtain⟨t1,t2,t3⟩:=txt_parts R
  simp only[jn_def]
  rw[show([]:List Int)=toN [] from rfl,M10_L1_eq F R _ g.Ifaces _ (fun x h=>h) (by simp;omega),M10_L2_eq F R _ g.Types _ (fun x h=>h) (by simp only[List.length_append,List.length_nil];omega),M10_L4_eq F R _ g.Funcs _ (fun x h=>h) (by simp only[List.length_append,List.length_nil];omega),M10_L7_eq F _ g.Entries _ (fun x h=>okE R h) (by simp only[List.length_append,List.length_nil];omega)]
  have e:[]++txtL (g.Ifaces.map wdI)++txtL (g.Types.flatMap tyL)++txtL (g.Funcs.flatMap fnL)++txtL (g.Entries.map wdE)=txtL (wdG g):=by
   unfold wdG
   simp only[txtL_app,List.nil_append,List.append_assoc]
  rw[e]
  have e2:(toN (txtL (wdG g))).length=(txtL (wdG g)).length:=by simp[toN]
  rw[toN_back,e2]
  by_cases hl:1000000<(txtL (wdG g)).length
  ·rw[if_pos (by simp;omega),if_pos hl]
  ·rw[if_neg (by simp;omega),if_neg hl]
end Go.Proofs.YtjofofmllnpkpaaGreatDoor
