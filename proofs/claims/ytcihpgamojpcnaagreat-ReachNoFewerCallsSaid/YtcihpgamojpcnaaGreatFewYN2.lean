/- Part of the proof: YD, YW, YS, YU, YV, YX, YN1, YN2. -/
import Derived.Test.YtcihpgamojpcnaaGreatFewYC
import Derived.Test.YtcihpgamojpcnaaGreatFewC6Ord
namespace Go.Proofs.YtcihpgamojpcnaaGreat
open Go Go.Pv
set_option linter.unusedVariables false
set_option linter.unusedSimpArgs false
set_option maxRecDepth 100000
theorem methE_zero:∀{l:List Tx} {p:Option Tx},methE p l=0->(∀b,p=some b->∀x,x∈l->Op.bytesLess b x=true)/\l.Pairwise (fun a b=>Op.bytesLess a b=true)/\∀x,x∈l->nm x=true
 |[],p,_=>⟨by simp,List.Pairwise.nil,by simp⟩
 |s::l,p,h=>by
  rw[methE] at h
  split at h
  ·rename_i hc;exact absurd h hc
  ·rename_i hc
   obtain⟨h1,h2⟩:=nme_zero (s:=s) (p:=p) (by simpa using hc)
   obtain⟨i1,i2,i3⟩:=methE_zero h
   refine⟨fun b hb x hx=>?_,List.pairwise_cons.2 ⟨i1 s rfl,i2⟩,fun x hx=>?_⟩
   ·rcases List.mem_cons.1 hx with rfl|hx
    ·exact h2 b hb
    ·exact bl_trans (h2 b hb) (i1 s rfl x hx)
   ·rcases List.mem_cons.1 hx with rfl|hx
    ·exact h1
    ·exact i3 x hx
theorem lsE_zero{there:Tx->Bool}:∀{l:List Tx} {p:Option Tx},lsE there false p l=0->(∀b,p=some b->∀x,x∈l->Op.bytesLess b x=true)/\l.Pairwise (fun a b=>Op.bytesLess a b=true)/\∀x,x∈l->there x=true
 |[],p,_=>⟨by simp,List.Pairwise.nil,by simp⟩
 |s::l,p,h=>by
  rw[lsE] at h
  split at h
  ·simp at h
  ·rename_i h1
   split at h
   ·simp at h
   ·rename_i h2
    obtain⟨i1,i2,i3⟩:=lsE_zero h
    have hb0:∀b,p=some b->Op.bytesLess b s=true:=fun b hb=>by
     subst hb
     simp only[Option.elim_some] at h2
     exact le_iff.1 (by simpa using h2)
    refine⟨fun b hb x hx=>?_,List.pairwise_cons.2 ⟨i1 s rfl,i2⟩,fun x hx=>?_⟩
    ·rcases List.mem_cons.1 hx with rfl|hx
     ·exact hb0 b hb
     ·exact bl_trans (hb0 b hb) (i1 s rfl x hx)
    ·rcases List.mem_cons.1 hx with rfl|hx
     ·simpa using h1
     ·exact i3 x hx
theorem mtE_zero{fs:Tx->Bool}:∀{l:List TMethod} {p:Option Tx},mtE fs false p l=0->(∀b,p=some b->∀x,x∈l->Op.bytesLess b x.Name=true)/\l.Pairwise (fun a b=>Op.bytesLess a.Name b.Name=true)/\∀x,x∈l->nm x.Name=true/\fs x.Func=true
 |[],p,_=>⟨by simp,List.Pairwise.nil,by simp⟩
 |s::l,p,h=>by
  rw[mtE] at h
  split at h
  ·rename_i hc;exact absurd h hc
  ·rename_i hc
   obtain⟨h1,h2⟩:=nme_zero (s:=s.Name) (p:=p) (by simpa using hc)
   split at h
   ·simp at h
   ·rename_i h3
    obtain⟨i1,i2,i3⟩:=mtE_zero h
    refine⟨fun b hb x hx=>?_,List.pairwise_cons.2 ⟨i1 s.Name rfl,i2⟩,fun x hx=>?_⟩
    ·rcases List.mem_cons.1 hx with rfl|hx
     ·exact h2 b hb
     ·exact bl_trans (h2 b hb) (i1 s.Name rfl x hx)
    ·rcases List.mem_cons.1 hx with rfl|hx
     ·exact⟨h1,by simpa using h3⟩
     ·exact i3 x hx
structure RightI(x:TIface):Prop where
 nam:nm x.Name=true
 ne:x.Methods≠[]
 len:x.Methods.length<=200
 srt:x.Methods.Pairwise (fun a b=>Op.bytesLess a b=true)
 mn:∀s,s∈x.Methods->nm s=true
theorem ifE_zero:∀{l:List TIface} {p:Option Tx},ifE p l=0->(∀b,p=some b->∀x,x∈l->Op.bytesLess b x.Name=true)/\l.Pairwise (fun a b=>Op.bytesLess a.Name b.Name=true)/\∀x,x∈l->RightI x
 |[],p,_=>⟨by simp,List.Pairwise.nil,by simp⟩
 |s::l,p,h=>by
  rw[ifE] at h
  split at h
  ·rename_i hc;exact absurd h hc
  ·rename_i hc
   obtain⟨h1,h2⟩:=nme_zero (s:=s.Name) (p:=p) (by simpa using hc)
   split at h
   ·simp at h
   ·rename_i h3
    split at h
    ·simp at h
    ·rename_i h4
     split at h
     ·rename_i h5;exact absurd h h5
     ·rename_i h5
      obtain⟨_,m2,m3⟩:=methE_zero (show methE none s.Methods=0 by simpa using h5)
      obtain⟨i1,i2,i3⟩:=ifE_zero h
      refine⟨fun b hb x hx=>?_,List.pairwise_cons.2 ⟨i1 s.Name rfl,i2⟩,fun x hx=>?_⟩
      ·rcases List.mem_cons.1 hx with rfl|hx
       ·exact h2 b hb
       ·exact bl_trans (h2 b hb) (i1 s.Name rfl x hx)
      ·rcases List.mem_cons.1 hx with rfl|hx
       ·exact⟨h1,h3,by omega,m2,m3⟩
       ·exact i3 x hx
structure RightT(fs:Tx->Bool)(x:TType):Prop where
 nam:nm x.Name=true
 len:x.Methods.length<=200
 srt:x.Methods.Pairwise (fun a b=>Op.bytesLess a.Name b.Name=true)
 mn:∀s,s∈x.Methods->nm s.Name=true/\fs s.Func=true
theorem tyE_zero{fs:Tx->Bool}:∀{l:List TType} {p:Option Tx},tyE fs false p l=0->(∀b,p=some b->∀x,x∈l->Op.bytesLess b x.Name=true)/\l.Pairwise (fun a b=>Op.bytesLess a.Name b.Name=true)/\∀x,x∈l->RightT fs x
 |[],p,_=>⟨by simp,List.Pairwise.nil,by simp⟩
 |s::l,p,h=>by
  rw[tyE] at h
  split at h
  ·rename_i hc;exact absurd h hc
  ·rename_i hc
   obtain⟨h1,h2⟩:=nme_zero (s:=s.Name) (p:=p) (by simpa using hc)
   split at h
   ·simp at h
   ·rename_i h4
    split at h
    ·rename_i h5;exact absurd h h5
    ·rename_i h5
     obtain⟨_,m2,m3⟩:=mtE_zero (show mtE fs false none s.Methods=0 by simpa using h5)
     obtain⟨i1,i2,i3⟩:=tyE_zero h
     refine⟨fun b hb x hx=>?_,List.pairwise_cons.2 ⟨i1 s.Name rfl,i2⟩,fun x hx=>?_⟩
     ·rcases List.mem_cons.1 hx with rfl|hx
      ·exact h2 b hb
      ·exact bl_trans (h2 b hb) (i1 s.Name rfl x hx)
     ·rcases List.mem_cons.1 hx with rfl|hx
      ·exact⟨h1,by omega,m2,m3⟩
      ·exact i3 x hx
structure RightC(fs:Tx->Bool)(is:Tx->Option (List Tx))(c:TCall):Prop where
 feat:c.Feature=[]\/nm c.Feature=true
 kind:(c.Kind=1/\fs c.Target=true/\c.Method=[])\/(c.Kind=2/\∃l,is c.Target=some l/\c.Method∈l)
theorem clE_zero{fs:Tx->Bool}{is:Tx->Option (List Tx)}{c:TCall}(h:clE fs is false c=0):RightC fs is c:=by
 unfold clE at h
 have tail:(if c.Feature≠[]/\nm c.Feature=false then (8:Int) else 0)=0->c.Feature=[]\/nm c.Feature=true:=by
  intro h
  split at h
  ·simp at h
  ·rename_i hc
   by_cases h1:c.Feature=[]
   ·exact .inl h1
   ·refine .inr ?_
    cases h2:nm c.Feature
    ·exact absurd ⟨h1,h2⟩ hc
    ·rfl
 split at h
 ·rename_i k1
  split at h
  ·simp at h
  ·rename_i h1
   split at h
   ·simp at h
   ·rename_i h2
    exact⟨tail h,.inl ⟨k1,by simpa using h1,by simpa using h2⟩⟩
 ·split at h
  ·rename_i k1 k2
   split at h
   ·simp at h
   ·rename_i h1
    refine⟨tail h,.inr ⟨k2,?_⟩⟩
    cases hi:is c.Target with
    |none=>rw[hi] at h1;simp at h1
    |some l=>rw[hi] at h1;exact⟨l,rfl,by simpa using h1⟩
  ·simp at h
theorem csE_zero{fs:Tx->Bool}{is:Tx->Option (List Tx)}:∀{l:List TCall},csE fs is false l=0->∀c,c∈l->RightC fs is c
 |[],_,c,hc=>by simp at hc
 |x::l,h,c,hc=>by
  rw[csE] at h
  split at h
  ·rename_i h1;exact absurd h h1
  ·rename_i h1
   rcases List.mem_cons.1 hc with rfl|hc
   ·exact clE_zero (by simpa using h1)
   ·exact csE_zero h c hc
structure RightF(fs ts:Tx->Bool)(is:Tx->Option (List Tx))(x:TFunc):Prop where
 nam:nm x.Name=true
 comp:nm x.Component=true
 len:x.Calls.length<=200
 calls:∀c,c∈x.Calls->RightC fs is c
 msrt:x.Makes.Pairwise (fun a b=>Op.bytesLess a b=true)
 makes:∀t,t∈x.Makes->ts t=true
theorem fnE_zero{fs ts:Tx->Bool}{is:Tx->Option (List Tx)}:∀{l:List TFunc} {p:Option Tx},fnE fs ts is false p l=0->(∀b,p=some b->∀x,x∈l->Op.bytesLess b x.Name=true)/\l.Pairwise (fun a b=>Op.bytesLess a.Name b.Name=true)/\∀x,x∈l->RightF fs ts is x
 |[],p,_=>⟨by simp,List.Pairwise.nil,by simp⟩
 |s::l,p,h=>by
  rw[fnE] at h
  split at h
  ·rename_i hc;exact absurd h hc
  ·rename_i hc
   obtain⟨h1,h2⟩:=nme_zero (s:=s.Name) (p:=p) (by simpa using hc)
   split at h
   ·simp at h
   ·rename_i h3
    split at h
    ·simp at h
    ·rename_i h4
     split at h
     ·rename_i h5;exact absurd h h5
     ·rename_i h5
      split at h
      ·rename_i h6;exact absurd h h6
      ·rename_i h6
       obtain⟨_,m2,m3⟩:=lsE_zero (show lsE ts false none s.Makes=0 by simpa using h6)
       obtain⟨i1,i2,i3⟩:=fnE_zero h
       refine⟨fun b hb x hx=>?_,List.pairwise_cons.2 ⟨i1 s.Name rfl,i2⟩,fun x hx=>?_⟩
       ·rcases List.mem_cons.1 hx with rfl|hx
        ·exact h2 b hb
        ·exact bl_trans (h2 b hb) (i1 s.Name rfl x hx)
       ·rcases List.mem_cons.1 hx with rfl|hx
        ·exact⟨h1,by simpa using h3,by omega,csE_zero (by simpa using h5),m2,m3⟩
        ·exact i3 x hx
structure RightG(g:TGraph):Prop where
 il:g.Ifaces.length<=200
 tl:g.Types.length<=500
 fl:g.Funcs.length<=3000
 isrt:g.Ifaces.Pairwise (fun a b=>Op.bytesLess a.Name b.Name=true)
 tsrt:g.Types.Pairwise (fun a b=>Op.bytesLess a.Name b.Name=true)
 fsrt:g.Funcs.Pairwise (fun a b=>Op.bytesLess a.Name b.Name=true)
 i:∀x,x∈g.Ifaces->RightI x
 t:∀x,x∈g.Types->RightT (fsOf g) x
 f:∀x,x∈g.Funcs->RightF (fsOf g) (tsOf g) (isOf g) x
 esrt:g.Entries.Pairwise (fun a b=>Op.bytesLess a b=true)
 e:∀s,s∈g.Entries->fsOf g s=true
theorem right_of{g:TGraph}(h:chk false g=0):RightG g:=by
 unfold chk at h
 split at h
 ·simp at h
 split at h
 ·simp at h
 split at h
 ·simp at h
 rename_i h1 h2 h3
 split at h
 ·rename_i h4;exact absurd h h4
 split at h
 ·rename_i h5;exact absurd h h5
 split at h
 ·rename_i h6;exact absurd h h6
 rename_i h4 h5 h6
 obtain⟨_,a2,a3⟩:=ifE_zero (show ifE none g.Ifaces=0 by simpa using h4)
 obtain⟨_,b2,b3⟩:=tyE_zero (show tyE (fsOf g) false none g.Types=0 by simpa using h5)
 obtain⟨_,c2,c3⟩:=fnE_zero (show fnE (fsOf g) (tsOf g) (isOf g) false none g.Funcs=0 by simpa using h6)
 obtain⟨_,d2,d3⟩:=lsE_zero h
 exact⟨by omega,by omega,by omega,a2,b2,c2,a3,b3,c3,d2,d3⟩
theorem M56_eq(F:Nat)(a b:Tx):M56 F a b=some (if Op.bytesLess a b=true then -1 else if a=b then 0 else 1):=by
 unfold M56 M79
 simp only[beq_self_eq_true,Bool.not_true,Option.bind_some,Bool.false_eq_true,if_false]
 by_cases h:Op.bytesLess a b=true
 ·simp[h]
 ·by_cases h2:a=b
  ·subst h2;simp[bl_irrefl]
  ·simp[h,h2]
def mlt(x:Tx)(m:TMethod):Bool:=Op.bytesLess m.Name x
theorem bs_loop(F:Nat)(a:List TMethod)(x:Tx)(k:Int->Option (Int×Bool))(hlen:a.length<=100000)(hs:a.Pairwise (fun p q=>Op.bytesLess p.Name q.Name=true)):
  ∀(n i j:Nat),i<=j->j<=a.length->j - i<n->(∀q (h:q<a.length),q<i->mlt x a[q]=true)->(∀q (h:q<a.length),j<=q->mlt x a[q]=false)->
  ∃p:Nat,p<=a.length/\M95_L1 F a x k n i j=k p/\(∀q (h:q<a.length),q<p->mlt x a[q]=true)/\∀q (h:q<a.length),p<=q->mlt x a[q]=false
 |0,i,j,_,_,h,_,_=>by omega
 |n+1,i,j,hij,hj,hn,h1,h2=>by
  rw[M95_L1]
  by_cases hc:i<j
  ·have hm:(i+j) / 2<a.length:=by omega
   rw[if_t (by omega),mid_nat (by omega),idx_nat hm,Option.bind_some]
   unfold M96
   rw[M56_eq,Option.bind_some,Option.bind_some]
   simp only[jn_def]
   by_cases hl:Op.bytesLess (a[(i+j) / 2]).Name x=true
   ·rw[if_pos hl,if_t (by omega),show w64 ((((i+j) / 2:Nat):Int)+1)=(((i+j) / 2+1:Nat):Int) by rw[w64_id (by omega) (by omega)];rfl]
    refine bs_loop F a x k hlen hs n ((i+j) / 2+1) j (by omega) hj (by omega) (fun q h hq=>?_) h2
    rcases Nat.lt_or_ge q ((i+j) / 2) with hq2|hq2
    ·have:=List.pairwise_iff_getElem.1 hs q ((i+j) / 2) h hm hq2
     exact bl_trans this hl
    ·have:q=(i+j) / 2:=by omega
     subst this;exact hl
   ·rw[if_neg hl]
    have e:(if decide ((if a[(i+j) / 2].Name=x then (0:Int) else 1)<0)=true then M95_L1 F a x k n (w64 ((((i+j) / 2:Nat):Int)+1)) j else M95_L1 F a x k n i (((i+j) / 2:Nat):Int))=M95_L1 F a x k n i (((i+j) / 2:Nat):Int):=by
     have hh:¬((if a[(i+j) / 2].Name=x then (0:Int) else 1)<0):=by split<;>omega
     rw[if_f hh]
    rw[e]
    refine bs_loop F a x k hlen hs n i ((i+j) / 2) (by omega) (by omega) (by omega) h1 (fun q h hq=>?_)
    have hl:Op.bytesLess (a[(i+j) / 2]).Name x=false:=by simpa using hl
    rcases Nat.lt_or_ge ((i+j) / 2) q with hq2|hq2
    ·have:=List.pairwise_iff_getElem.1 hs ((i+j) / 2) q hm h hq2
     unfold mlt
     cases hh:Op.bytesLess (a[q]).Name x
     ·rfl
     ·rw[bl_trans this hh] at hl;simp at hl
    ·have:q=(i+j) / 2:=by omega
     subst this;exact hl
  ·have:i=j:=by omega
   subst this
   rw[if_f (by omega)]
   exact⟨i,hj,rfl,h1,h2⟩
def mOf(t:TType)(m:Tx):Tx×Bool:=match t.Methods.find? (fun y=>y.Name==m) with|some y=>(y.Func,true)|none=>([],false)
theorem M72_eq(F:Nat)(t:TType)(x:Tx)(hlen:t.Methods.length<=200)(hs:t.Methods.Pairwise (fun p q=>Op.bytesLess p.Name q.Name=true))(hF:1000<=F):M72 F t x=some (mOf t x):=by
 unfold M72 M95 mOf
 simp only[jn_def]
 obtain⟨p,p1,p2,p3,p4⟩:=bs_loop F t.Methods x (fun n4=>if decide (n4<((t.Methods.length:Nat):Int))=true then (idx t.Methods n4).bind fun x19=>(M96 F x19 x).bind fun y21=>some (n4,y21==0) else some (n4,false)) (by omega) hs F 0 t.Methods.length (by omega) (Nat.le_refl _) (by omega) (fun q h hq=>by omega) (fun q h hq=>by omega)
 rw[show((0:Nat):Int)=0 from rfl] at p2
 rw[p2]
 by_cases hp:p<t.Methods.length
 ·rw[if_t (by omega),idx_nat hp,Option.bind_some]
  unfold M96
  rw[M56_eq,Option.bind_some,Option.bind_some,Option.bind_some]
  have hlt:Op.bytesLess (t.Methods[p]).Name x=false:=p4 p hp (Nat.le_refl _)
  have ec:(if Op.bytesLess (t.Methods[p]).Name x=true then (-1:Int) else if (t.Methods[p]).Name=x then 0 else 1)=if (t.Methods[p]).Name=x then 0 else 1:=by rw[if_neg (by simp[hlt])]
  rw[ec]
  by_cases he:(t.Methods[p]).Name=x
  ·rw[if_pos he]
   have hf:t.Methods.find? (fun y=>y.Name==x)=some t.Methods[p]:=by
    rw[List.find?_eq_some_iff_getElem]
    refine⟨by simp[he],p,hp,rfl,fun j hj=>?_⟩
    have:=p3 j (by omega) hj
    unfold mlt at this
    simpa using bl_ne this
   rw[hf]
   simp[idx_nat hp]
  ·rw[if_neg he]
   have hf:t.Methods.find? (fun y=>y.Name==x)=none:=by
    rw[List.find?_eq_none]
    intro y hy
    obtain⟨q,hq,rfl⟩:=List.getElem_of_mem hy
    rcases Nat.lt_trichotomy q p with h|h|h
    ·have:=p3 q hq h
     unfold mlt at this
     simpa using bl_ne this
    ·subst h;simpa using he
    ·have h2:=List.pairwise_iff_getElem.1 hs p q hp hq h
     have h3:Op.bytesLess x (t.Methods[p]).Name=true:=by
      rcases bl_tri (t.Methods[p]).Name x with g|g|g
      ·rw[g] at hlt;simp at hlt
      ·exact absurd g he
      ·exact g
     have:=bl_ne (bl_trans h3 h2)
     simpa using fun e=>this e.symm
   rw[hf]
   simp
 ·rw[if_f (by omega)]
  have hf:t.Methods.find? (fun y=>y.Name==x)=none:=by
   rw[List.find?_eq_none]
   intro y hy
   obtain⟨q,hq,rfl⟩:=List.getElem_of_mem hy
   have:=p3 q hq (by omega)
   unfold mlt at this
   simpa using bl_ne this
  rw[hf]
  simp
def fitB(t:TType)(x:TIface):Bool:=x.Methods.all fun m=>(mOf t m).2
theorem M54_eq(F:Nat)(t:TType)(x:TIface)(hlen:t.Methods.length<=200)(hs:t.Methods.Pairwise (fun p q=>Op.bytesLess p.Name q.Name=true))(hF:1000<=F):M54 F t x=some (fitB t x):=by
 unfold M54 fitB
 rw[jn_def]
 generalize x.Methods=l
 induction l with
 |nil=>rfl
 |cons m l ih=>
  rw[M54_L1,M72_eq F t m hlen hs hF,Option.bind_some,ih,List.all_cons]
  cases (mOf t m).2<;>simp
abbrev NumM:=List (Tx×Int)
def nums(m:NumM):Int->List Tx->NumM
 |_,[]=>m
 |n,x::l=>nums (mput m x n) (n+1) l
theorem nums_other(x:Tx):∀(l:List Tx) (m:NumM) (n:Int),x ∉ l->mget (nums m n l) x=mget m x
 |[],m,n,_=>rfl
 |y::l,m,n,h=>by
  rw[nums,nums_other x l _ _ (fun hh=>h (List.mem_cons_of_mem _ hh)),mget_mput,if_neg (fun e=>h (by rw[e];simp))]
theorem nums_get:∀(l:List Tx) (m:NumM) (n:Int) (i:Nat) (h:i<l.length),l.Pairwise (fun a b=>Op.bytesLess a b=true)->mget (nums m n l) l[i]=some (n+i)
 |[],m,n,i,h,_=>by simp at h
 |x::l,m,n,0,h,hp=>by
  have hp:=List.pairwise_cons.1 hp
  rw[nums,List.getElem_cons_zero,nums_other x l _ _ (fun hh=>bl_ne (hp.1 x hh) rfl),mget_mput,if_pos rfl];simp
 |x::l,m,n,i+1,h,hp=>by
  have hp:=List.pairwise_cons.1 hp
  rw[nums,List.getElem_cons_succ,nums_get l _ (n+1) i (by simpa using h) hp.2]
  congr 1;omega
theorem M21_L1_eq{F:Nat}(k:NumM->Option (Option Treach_world)):∀(l:List TFunc) (n:Int) (m:NumM),M21_L1 F k l n m=k (nums m n (l.map (·.Name)))
 |[],n,m=>rfl
 |x::l,n,m=>by rw[M21_L1,M21_L1_eq k l];rfl
theorem M21_L2_eq{F:Nat}(k:NumM->Option (Option Treach_world)):∀(l:List TType) (n:Int) (m:NumM),M21_L2 F k l n m=k (nums m n (l.map (·.Name)))
 |[],n,m=>rfl
 |x::l,n,m=>by rw[M21_L2,M21_L2_eq k l];rfl
theorem M21_L5_eq{F:Nat}(k:SetM->Option (Option Treach_world)):∀(l:List Tx) (m:SetM),M21_L5 F k l m=k (sset m l)
 |[],m=>rfl
 |x::l,m=>by rw[M21_L5,M21_L5_eq k l];rfl
abbrev FitM:=List (Tx×List Int)
def fitIdx(x:TIface):Int->List TType->List Int
 |_,[]=>[]
 |n,t::l=>if fitB t x=true then n::fitIdx x (n+1) l else fitIdx x (n+1) l
theorem fitIdx_len(x:TIface):∀(l:List TType) (n:Int),(fitIdx x n l).length<=l.length
 |[],n=>by simp[fitIdx]
 |t::l,n=>by
  have:=fitIdx_len x l (n+1)
  rw[fitIdx]
  split<;>simp<;>omega
theorem fitIdx_mem(x:TIface):∀(l:List TType) (n:Int) (t:Int),t∈fitIdx x n l<->∃i:Nat,∃h:i<l.length,t=n+i/\fitB l[i] x=true
 |[],n,t=>by simp[fitIdx]
 |y::l,n,t=>by
  have ih:=fitIdx_mem x l (n+1) t
  rw[fitIdx]
  constructor
  ·intro h
   have:(t=n/\fitB y x=true)\/t∈fitIdx x (n+1) l:=by
    split at h
    ·rename_i hf
     rcases List.mem_cons.1 h with rfl|h
     ·exact .inl ⟨rfl,hf⟩
     ·exact .inr h
    ·exact .inr h
   rcases this with ⟨rfl,hf⟩|h
   ·exact⟨0,by simp,by simp,hf⟩
   ·obtain⟨i,h1,h2,h3⟩:=ih.1 h
    exact⟨i+1,by simpa using h1,by rw[h2];omega,h3⟩
  ·rintro⟨i,h1,h2,h3⟩
   cases i with
   |zero=>
    have h3:fitB y x=true:=h3
    rw[if_pos h3];simp at h2;simp[h2]
   |succ i=>
    have:t∈fitIdx x (n+1) l:=ih.2 ⟨i,by simpa using h1,by rw[h2];omega,h3⟩
    split
    ·exact List.mem_cons_of_mem _ this
    ·exact this
def putFit(T:List TType)(m:FitM)(x:TIface):FitM:=if (fitIdx x 0 T).isEmpty=true then m else mput m x.Name ((mget m x.Name).getD []++fitIdx x 0 T)
theorem M21_L4_eq(F:Nat)(x:TIface)(k:FitM->Option (Option Treach_world))(hF:1000<=F):∀(l:List TType) (n:Int) (m:FitM),(∀t,t∈l->t.Methods.length<=200/\t.Methods.Pairwise (fun p q=>Op.bytesLess p.Name q.Name=true))->
  ((mget m x.Name).getD []).length+l.length<=100000->M21_L4 F x k l n m=k (if (fitIdx x n l).isEmpty=true then m else mput m x.Name ((mget m x.Name).getD []++fitIdx x n l))
 |[],n,m,_,_=>by simp[M21_L4,fitIdx]
 |t::l,n,m,ht,hb=>by
  obtain⟨t1,t2⟩:=ht t (by simp)
  simp only[List.length_cons] at hb
  rw[M21_L4,M54_eq F t x t1 t2 hF,Option.bind_some]
  simp only[jn_def]
  by_cases hf:fitB t x=true
  ·rw[show fitIdx x n (t::l)=n::fitIdx x (n+1) l by rw[fitIdx,if_pos hf]]
   rw[if_pos hf,if_pos (by simp;omega),M21_L4_eq F x k hF l (n+1) _ (fun q hq=>ht q (List.mem_cons_of_mem _ hq)) (by rw[mget_mput,if_pos rfl];simp;omega)]
   congr 1
   rw[mget_mput,if_pos rfl,Option.getD_some,if_neg (show ¬(n::fitIdx x (n+1) l).isEmpty=true by simp)]
   split
   ·rename_i he;rw[List.isEmpty_iff.1 he]
   ·rw[mput_mput];simp
  ·rw[show fitIdx x n (t::l)=fitIdx x (n+1) l by rw[fitIdx,if_neg hf]]
   rw[if_neg hf,M21_L4_eq F x k hF l (n+1) m (fun q hq=>ht q (List.mem_cons_of_mem _ hq)) (by omega)]
def fitM(T:List TType)(m:FitM):List TIface->FitM
 |[]=>m
 |x::l=>fitM T (putFit T m x) l
theorem putFit_get(T:List TType)(m:FitM)(x:TIface)(n:Tx):(mget (putFit T m x) n).getD []=(mget m n).getD []++if x.Name=n then fitIdx x 0 T else []:=by
 unfold putFit
 by_cases h:fitIdx x 0 T=[]
 ·rw[if_pos (by rw[h];rfl),h];simp
 ·rw[if_neg (by simpa using h),mget_mput]
  by_cases h2:x.Name=n
  ·subst h2;simp
  ·rw[if_neg h2,if_neg h2];simp
theorem M21_L3_eq(F:Nat)(g:TGraph)(k:FitM->Option (Option Treach_world))(hF:1000<=F)(hT:∀t,t∈g.Types->t.Methods.length<=200/\t.Methods.Pairwise (fun p q=>Op.bytesLess p.Name q.Name=true))(htl:g.Types.length<=500):
  ∀(l:List TIface) (m:FitM),l.Pairwise (fun a b=>Op.bytesLess a.Name b.Name=true)->(∀x,x∈l->(mget m x.Name).getD []=[])->M21_L3 F g k l m=k (fitM g.Types m l)
 |[],m,_,_=>rfl
 |x::l,m,hp,hm=>by
  have hp:=List.pairwise_cons.1 hp
  rw[M21_L3]
  simp only[jn_def]
  rw[M21_L4_eq F x _ hF g.Types 0 m hT (by rw[hm x (by simp)];simp;omega)]
  rw[M21_L3_eq F g k hF hT htl l _ hp.2 (fun y hy=>by
   have:=putFit_get g.Types m x y.Name
   unfold putFit at this
   rw[this,hm y (List.mem_cons_of_mem _ hy),if_neg (bl_ne (hp.1 y hy))];rfl)]
  rfl
theorem fitM_get(T:List TType)(n:Tx):∀(l:List TIface) (m:FitM),l.Pairwise (fun a b=>Op.bytesLess a.Name b.Name=true)->(mget (fitM T m l) n).getD []=(mget m n).getD []++((l.find? fun x=>x.Name==n).elim [] fun x=>fitIdx x 0 T)
 |[],m,_=>by simp[fitM]
 |x::l,m,hp=>by
  have hp:=List.pairwise_cons.1 hp
  rw[fitM,fitM_get T n l _ hp.2,putFit_get,List.find?_cons]
  by_cases h:x.Name=n
  ·have h2:l.find? (fun x=>x.Name==n)=none:=by
    rw[List.find?_eq_none]
    intro y hy
    have:=bl_ne (hp.1 y hy)
    rw[h] at this
    simpa using fun e=>this e.symm
   rw[if_pos h,h2,show(x.Name==n)=true by simpa using h];simp
  ·rw[if_neg h,show(x.Name==n)=false by simpa using h];simp
def wOf(g:TGraph)(how:Int)(fs:List Tx):Treach_world:=
 Treach_world.mk g (nums [] 0 (g.Funcs.map (·.Name))) (nums [] 0 (g.Types.map (·.Name))) (fitM g.Types [] g.Ifaces) (sset (mput [] [] true) fs) (how==2)
theorem M21_eq(F:Nat)(g:TGraph)(how:Int)(fs:List Tx)(R:RightG g)(hF:1000<=F):M21 F g how fs=some (some (wOf g how fs)):=by
 unfold M21
 simp only[jn_def,M21_L1_eq,M21_L2_eq,M21_L5_eq]
 rw[M21_L3_eq F g _ hF (fun t ht=>⟨(R.t t ht).len,(R.t t ht).srt⟩) R.tl g.Ifaces [] R.isrt (fun x _=>rfl)]
 rfl
def opnE(g:TGraph)(how:Int)(fs:List Tx):Int:=if chk false g≠0 then chk false g else if feE fs≠0 then feE fs else if how=1\/how=2 then 0 else 7
theorem M34_eq(F:Nat)(g:TGraph)(how:Int)(fs:List Tx)(hg:okTGraph g)(hfs:∀x,x∈fs->x.length<=maxLen)(hF:1000<=F):M34 F g how fs=some (if opnE g how fs≠0 then none else some (wOf g how fs),opnE g how fs):=by
 unfold M34 opnE
 rw[M20_eq F g hg,Option.bind_some,M66_eq F fs hfs,Option.bind_some]
 by_cases h1:chk false g=0
 ·rw[if_neg (by simp[h1]),if_neg (show ¬chk false g≠0 by simp[h1])]
  by_cases h2:feE fs=0
  ·rw[if_neg (by simp[h2]),if_neg (show ¬feE fs≠0 by simp[h2]),M21_eq F g how fs (right_of h1) hF]
   by_cases h3:how=1
   ·simp[h3]
   ·by_cases h4:how=2
    ·simp[h4]
    ·simp[h3,h4]
  ·rw[if_pos (by simpa using h2),if_pos h2];simp[h2]
 ·rw[if_pos (by simpa using h1),if_pos h1];simp[h1]
def tru(l:List Bool)(n:Nat):Prop:=l[n]? = some true
def fls(l:List Bool):Nat:=l.countP fun b=>!b
theorem tru_set{l:List Bool}{i n:Nat}(hi:i<l.length):tru (l.set i true) n<->n=i\/tru l n:=by
 unfold tru
 rw[List.getElem?_set]
 by_cases h:i=n
 ·subst h;simp[hi]
 ·rw[if_neg h]
  constructor
  ·exact .inr
  ·rintro(h2|h2)
   ·exact absurd h2.symm h
   ·exact h2
theorem fls_set{l:List Bool}{i:Nat}(hi:i<l.length)(h:l[i]=false):fls (l.set i true)+1=fls l:=by
 induction l generalizing i with
 |nil=>simp at hi
 |cons x l ih=>
  cases i with
  |zero=>
   simp only[List.getElem_cons_zero] at h
   subst h
   simp[fls]
  |succ i=>
   have:=ih (i:=i) (by simpa using hi) (by simpa using h)
   unfold fls at this ⊢
   rw[List.set_cons_succ,List.countP_cons,List.countP_cons]
   omega
structure Grow(A:Nat->Prop)(l:List Bool)(q:List Int)(l':List Bool)(q':List Int):Prop where
 len:l'.length=l.length
 mu:q'.length+fls l'=q.length+fls l
 old:∀n,tru l n->tru l' n
 new:∀n,tru l' n->tru l n\/(A n/\(n:Int)∈q')
 qold:∀x,x∈q->x∈q'
 qnew:∀x,x∈q'->x∈q\/∃n:Nat,x=n/\A n/\tru l' n
theorem Grow.refl{A:Nat->Prop}{l:List Bool}{q:List Int}:Grow A l q l q:=⟨rfl,rfl,fun _ h=>h,fun _ h=>.inl h,fun _ h=>h,fun _ h=>.inl h⟩
theorem Grow.trans{A:Nat->Prop}{l l' l'':List Bool}{q q' q'':List Int}(h:Grow A l q l' q')(g:Grow A l' q' l'' q''):Grow A l q l'' q'' where
 len:=g.len.trans h.len
 mu:=g.mu.trans h.mu
 old:=fun n hn=>g.old n (h.old n hn)
 new:=fun n hn=>by
  rcases g.new n hn with h1|h1
  ·rcases h.new n h1 with h2|h2
   ·exact .inl h2
   ·exact .inr ⟨h2.1,g.qold _ h2.2⟩
  ·exact .inr h1
 qold:=fun x hx=>g.qold x (h.qold x hx)
 qnew:=fun x hx=>by
  rcases g.qnew x hx with h1|h1
  ·rcases h.qnew x h1 with h2|⟨n,h2,h3,h4⟩
   ·exact .inl h2
   ·exact .inr ⟨n,h2,h3,g.old n h4⟩
  ·exact .inr h1
theorem Grow.weak{A B:Nat->Prop}{l l':List Bool}{q q':List Int}(h:Grow A l q l' q')(hab:∀n,A n->B n):Grow B l q l' q' where
 len:=h.len
 mu:=h.mu
 old:=h.old
 new:=fun n hn=>(h.new n hn).imp id (fun x=>⟨hab n x.1,x.2⟩)
 qold:=h.qold
 qnew:=fun x hx=>(h.qnew x hx).imp id (fun⟨n,h1,h2,h3⟩=>⟨n,h1,hab n h2,h3⟩)
theorem add_eq(F:Nat)(w:Treach_world)(l md:List Bool)(m:List (Treach_slot×Bool))(o:List Treach_slot)(ty q:List Int)(n:Nat)(hn:n<l.length)(hb:q.length+fls l<=100000):
  ∃l' q',M44 F (n:Int) w l md m o ty q=some (l',q')/\Grow (fun k=>k=n) l q l' q'/\tru l' n:=by
 unfold M44
 rw[idx_nat hn,Option.bind_some]
 cases hl:l[n]
 ·rw[if_pos (by simp),Option.bind_some,if_pos (by simp;omega),Int.toNat_natCast]
  refine⟨l.set n true,q++[(n:Int)],rfl,⟨by simp,?_,fun k hk=>(tru_set hn).2 (.inr hk),fun k hk=>?_,fun x hx=>List.mem_append_left _ hx,fun x hx=>?_⟩,(tru_set hn).2 (.inl rfl)⟩
  ·have:=fls_set hn hl
   simp;omega
  ·rcases(tru_set hn).1 hk with rfl|hk
   ·exact .inr ⟨rfl,by simp⟩
   ·exact .inl hk
  ·rcases List.mem_append.1 hx with hx|hx
   ·exact .inl hx
   ·simp at hx
    exact .inr ⟨n,hx,rfl,(tru_set hn).2 (.inl rfl)⟩
 ·rw[if_neg (by simp)]
  exact⟨l,q,rfl,Grow.refl,by unfold tru;rw[List.getElem?_eq_getElem hn,hl]⟩
def fI(w:Treach_world)(x:Tx):Int:=(mget w.funcs x).getD 0
def tI(w:Treach_world)(x:Tx):Int:=(mget w.types x).getD 0
def onB(w:Treach_world)(x:Tx):Bool:=(mget w.on x).getD false
def fitL(w:Treach_world)(x:Tx):List Int:=(mget w.fitting x).getD []
def slotOf(c:TCall):Treach_slot:=Treach_slot.mk c.Target c.Method
inductive RR(F:Nat)(w:Treach_world):Bool->Int->Prop
 |entry {e:Tx} (h:e∈w.g.Entries):RR F w false (fI w e)
 |dir {f:Int} {x:TFunc} {c:TCall} (hf:RR F w false f) (hx:idx w.g.Funcs f=some x) (hc:c∈x.Calls) (ho:onB w c.Feature=true) (k:c.Kind=1):RR F w false (fI w c.Target)
 |dis {f t v:Int} {x:TFunc} {c:TCall} (hf:RR F w false f) (hx:idx w.g.Funcs f=some x) (hc:c∈x.Calls) (ho:onB w c.Feature=true) (k:c.Kind≠1) (ht:t∈fitL w c.Target) (hm:w.made=true->RR F w true t) (hv:M47 F w c t=some v):RR F w false v
 |mk {f:Int} {x:TFunc} {t:Tx} (hf:RR F w false f) (hx:idx w.g.Funcs f=some x) (ht:t∈x.Makes):RR F w true (tI w t)
theorem M47_m(F:Nat)(w:Treach_world){c c':TCall}(h:c.Method=c'.Method)(t:Int):M47 F w c t=M47 F w c' t:=by unfold M47;rw[h]
structure WOk(F:Nat)(w:Treach_world):Prop where
 fl:w.g.Funcs.length<=3000
 tl:w.g.Types.length<=500
 ent:∀e,e∈w.g.Entries->∃i:Nat,i<w.g.Funcs.length/\fI w e=i
 cl:∀x,x∈w.g.Funcs->x.Calls.length<=200
 mks:∀x,x∈w.g.Funcs->∀t,t∈x.Makes->∃i:Nat,i<w.g.Types.length/\tI w t=i
 dir:∀x,x∈w.g.Funcs->∀c,c∈x.Calls->∃i:Nat,i<w.g.Funcs.length/\fI w c.Target=i
 fit:∀s t,t∈fitL w s->∃i:Nat,i<w.g.Types.length/\t=i
 tgt:∀c (t:Int),(∃i:Nat,i<w.g.Types.length/\t=i)->0<w.g.Funcs.length->∃i:Nat,i<w.g.Funcs.length/\M47 F w c t=some (i:Int)
def SC(s:Treach_slot):TCall:=TCall.mk 0 s.iface s.method []
def Done(F:Nat)(w:Treach_world)(l md:List Bool)(o:List Treach_slot)(n:Nat):Prop:=
 ∀x,idx w.g.Funcs (n:Int)=some x->(∀t,t∈x.Makes->∀i:Nat,tI w t=i->tru md i)/\∀c,c∈x.Calls->onB w c.Feature=true->(c.Kind=1->∀i:Nat,fI w c.Target=i->tru l i)/\(c.Kind≠1->slotOf c∈o)
structure Inv(F:Nat)(w:Treach_world)(l md:List Bool)(m:List (Treach_slot×Bool))(o:List Treach_slot)(q:List Int)(b z:Nat)(E:Nat->Prop):Prop where
 ll:l.length=w.g.Funcs.length
 ml:md.length=w.g.Types.length
 mu:o.length+200*(q.length+fls l)+b<=600000
 qm:q.length+fls l=z/\z<=3000
 qr:∀x,x∈q->∃n:Nat,x=n/\tru l n
 sf:∀n,tru l n->RR F w false n
 st:∀n,tru md n->RR F w true n
 ms:∀s,(mget m s).getD false=true<->s∈o
 so:∀s,s∈o->∃f x c,RR F w false f/\idx w.g.Funcs f=some x/\c∈x.Calls/\onB w c.Feature=true/\c.Kind≠1/\s=slotOf c
 cls:∀s,s∈o->∀t,t∈fitL w s.iface->(w.made=true->tru md t.toNat)->∀n:Nat,M47 F w (SC s) t=some (n:Int)->tru l n
 dn:∀n,tru l n->(n:Int)∈q\/Done F w l md o n\/E n
theorem Done.mono{F:Nat}{w:Treach_world}{l md l' md':List Bool}{o o':List Treach_slot}{n:Nat}(h:Done F w l md o n)(hl:∀n,tru l n->tru l' n)(hm:∀n,tru md n->tru md' n)(ho:∀s,s∈o->s∈o'):Done F w l' md' o' n:=fun x hx=>
 ⟨fun t ht i hi=>hm i ((h x hx).1 t ht i hi),fun c hc hon=>⟨fun k i hi=>hl i (((h x hx).2 c hc hon).1 k i hi),fun k=>ho _ (((h x hx).2 c hc hon).2 k)⟩⟩
theorem tru_lt{l:List Bool}{n:Nat}(h:tru l n):n<l.length:=(List.getElem?_eq_some_iff.1 h).1
theorem Inv.grow{F:Nat}{w:Treach_world}{l md l':List Bool}{m:List (Treach_slot×Bool)}{o:List Treach_slot}{q q':List Int}{b z:Nat}{E A:Nat->Prop}(I:Inv F w l md m o q b z E)(G:Grow A l q l' q')(hA:∀n,A n->RR F w false n):Inv F w l' md m o q' b z E where
 ll:=G.len.trans I.ll
 ml:=I.ml
 mu:=by rw[G.mu];exact I.mu
 qm:=by rw[G.mu];exact I.qm
 qr:=fun x hx=>by
  rcases G.qnew x hx with h|⟨n,h1,_,h3⟩
  ·obtain⟨n,h1,h2⟩:=I.qr x h
   exact⟨n,h1,G.old n h2⟩
  ·exact⟨n,h1,h3⟩
 sf:=fun n hn=>by
  rcases G.new n hn with h|h
  ·exact I.sf n h
  ·exact hA n h.1
 st:=I.st
 ms:=I.ms
 so:=I.so
 cls:=fun s hs t ht hm n hn=>G.old n (I.cls s hs t ht hm n hn)
 dn:=fun n hn=>by
  rcases G.new n hn with h|h
  ·rcases I.dn n h with h1|h1|h1
   ·exact .inl (G.qold _ h1)
   ·exact .inr (.inl (h1.mono G.old (fun _ h=>h) (fun _ h=>h)))
   ·exact .inr (.inr h1)
  ·exact .inl h.2
theorem call_loop(F:Nat)(w:Treach_world)(c:TCall)(md:List Bool)(m:List (Treach_slot×Bool))(o:List Treach_slot)(ty:List Int)(hml:md.length=w.g.Types.length):
  ∀(ts:List Int) (l:List Bool) (q:List Int),(∀t,t∈ts->(∃i:Nat,i<w.g.Types.length/\t=i)/\∃i:Nat,i<l.length/\M47 F w c t=some (i:Int))->q.length+fls l<=100000->
  ∃l' q',M46_L1 F c w md m o ty ts l q=some (l',mput m (slotOf c) true,o++[slotOf c],q')/\Grow (fun n=>∃t,t∈ts/\(w.made=true->tru md t.toNat)/\M47 F w c t=some (n:Int)) l q l' q'/\
   ∀t,t∈ts->(w.made=true->tru md t.toNat)->∀n:Nat,M47 F w c t=some (n:Int)->tru l' n
 |[],l,q,_,_=>⟨l,q,rfl,Grow.refl,by simp⟩
 |t::ts,l,q,h,hb=>by
  obtain⟨⟨i,hi,rfl⟩,v,hv,hM⟩:=h t (by simp)
  -- the step, if it is taken
  have step:(w.made=true->tru md i)->∃l' q',(M44 F (v:Int) w l md (mput m (slotOf c) true) (o++[slotOf c]) ty q=some (l',q'))/\(∃l'' q'',M46_L1 F c w md m o ty ts l' q'=some (l'',mput m (slotOf c) true,o++[slotOf c],q'')/\Grow (fun n=>∃u,u∈(i:Int)::ts/\(w.made=true->tru md u.toNat)/\M47 F w c u=some (n:Int)) l q l'' q''/\
    ∀u,u∈(i:Int)::ts->(w.made=true->tru md u.toNat)->∀n:Nat,M47 F w c u=some (n:Int)->tru l'' n):=by
   intro hm
   obtain⟨l',q',e1,g1,t1⟩:=add_eq F w l md (mput m (slotOf c) true) (o++[slotOf c]) ty q v hv hb
   obtain⟨l'',q'',e2,g2,t2⟩:=call_loop F w c md m o ty hml ts l' q' (fun u hu=>by rw[g1.len];exact h u (List.mem_cons_of_mem _ hu)) (by rw[g1.mu];exact hb)
   refine⟨l',q',e1,l'',q'',e2,(g1.weak (fun n hn=>⟨(i:Int),by simp,by simpa using hm,by subst hn;exact hM⟩)).trans (g2.weak fun n ⟨u,h1,h2⟩=>⟨u,List.mem_cons_of_mem _ h1,h2⟩),fun u hu hmu n hn=>?_⟩
   rcases List.mem_cons.1 hu with rfl|hu
   ·rw[hM] at hn;simp only[Option.some.injEq] at hn;obtain rfl:v=n:=by omega
    exact g2.old _ t1
   ·exact t2 u hu hmu n hn
  have skip:¬(w.made=true->tru md i)->∃l'' q'',M46_L1 F c w md m o ty ts l q=some (l'',mput m (slotOf c) true,o++[slotOf c],q'')/\Grow (fun n=>∃u,u∈(i:Int)::ts/\(w.made=true->tru md u.toNat)/\M47 F w c u=some (n:Int)) l q l'' q''/\
    ∀u,u∈(i:Int)::ts->(w.made=true->tru md u.toNat)->∀n:Nat,M47 F w c u=some (n:Int)->tru l'' n:=by
   intro hm
   obtain⟨l'',q'',e2,g2,t2⟩:=call_loop F w c md m o ty hml ts l q (fun u hu=>h u (List.mem_cons_of_mem _ hu)) hb
   refine⟨l'',q'',e2,g2.weak fun n ⟨u,h1,h2⟩=>⟨u,List.mem_cons_of_mem _ h1,h2⟩,fun u hu hmu n hn=>?_⟩
   rcases List.mem_cons.1 hu with rfl|hu
   ·exact absurd (by simpa using hmu) hm
   ·exact t2 u hu hmu n hn
  rw[M46_L1]
  simp only[jn_def]
  by_cases hmade:w.made=true
  ·rw[if_neg (by simp[hmade]),idx_nat (by omega:i<md.length),Option.bind_some]
   cases hmd:md[i]
   ·rw[if_neg (by simp)]
    exact skip (fun h=>by have:=h hmade;unfold tru at this;rw[List.getElem?_eq_getElem (by omega),hmd] at this;simp at this)
   ·rw[if_pos rfl,hM,Option.bind_some]
    obtain⟨l',q',e1,r⟩:=step (fun _=>by unfold tru;rw[List.getElem?_eq_getElem (by omega),hmd])
    have e1':M44 F (v:Int) w l md (mput m (Treach_slot.mk c.Target c.Method) true) (o++([(Treach_slot.mk c.Target c.Method)]:List Treach_slot)) ty q=some (l',q'):=e1
    rw[e1',Option.bind_some]
    exact r
  ·rw[if_pos (by simpa using hmade),hM,Option.bind_some]
   obtain⟨l',q',e1,r⟩:=step (fun h=>absurd h hmade)
   have e1':M44 F (v:Int) w l md (mput m (Treach_slot.mk c.Target c.Method) true) (o++([(Treach_slot.mk c.Target c.Method)]:List Treach_slot)) ty q=some (l',q'):=e1
   rw[e1',Option.bind_some]
   exact r
structure More(l md:List Bool)(o:List Treach_slot)(l' md':List Bool)(o':List Treach_slot):Prop where
 l:∀n,tru l n->tru l' n
 m:∀n,tru md n->tru md' n
 o:∀s,s∈o->s∈o'
theorem More.refl{l md:List Bool}{o:List Treach_slot}:More l md o l md o:=⟨fun _ h=>h,fun _ h=>h,fun _ h=>h⟩
theorem More.trans{l md l' md' l'' md'':List Bool}{o o' o'':List Treach_slot}(h:More l md o l' md' o')(g:More l' md' o' l'' md'' o''):More l md o l'' md'' o'':=
 ⟨fun n x=>g.l n (h.l n x),fun n x=>g.m n (h.m n x),fun n x=>g.o n (h.o n x)⟩
theorem inv_call{F:Nat}{w:Treach_world}(W:WOk F w){l md:List Bool}{m:List (Treach_slot×Bool)}{o:List Treach_slot}{q:List Int}{b z:Nat}{E:Nat->Prop}(I:Inv F w l md m o q (b+1) z E)
  {f:Int} {x:TFunc} {c:TCall} (hf:RR F w false f) (hx:idx w.g.Funcs f=some x) (hxm:x∈w.g.Funcs) (hc:c∈x.Calls) (ho:onB w c.Feature=true) (hN:0<w.g.Funcs.length) (ty:List Int):
  ∃l' m' o' q',M46 F c w l md m o ty q=some (l',m',o',q')/\Inv F w l' md m' o' q' b z E/\More l md o l' md o'/\(c.Kind=1->∀i:Nat,fI w c.Target=i->tru l' i)/\(c.Kind≠1->slotOf c∈o'):=by
 have weak:∀{l':List Bool} {q':List Int},Inv F w l' md m o q' (b+1) z E->Inv F w l' md m o q' b z E:=fun J=>⟨J.ll,J.ml,by have:=J.mu;omega,J.qm,J.qr,J.sf,J.st,J.ms,J.so,J.cls,J.dn⟩
 unfold M46
 by_cases k1:c.Kind=1
 ·rw[if_pos (by simpa using k1)]
  obtain⟨i,hi,he⟩:=W.dir x hxm c hc
  have he':(mget w.funcs c.Target).getD 0=(i:Int):=he
  rw[he']
  obtain⟨l',q',e1,g1,t1⟩:=add_eq F w l md m o ty q i (by rw[I.ll];exact hi) (by have:=I.qm;omega)
  rw[e1,Option.bind_some]
  refine⟨l',m,o,q',rfl,weak (I.grow g1 (fun n hn=>?_)),⟨g1.old,fun _ h=>h,fun _ h=>h⟩,fun _ j hj=>?_,fun h=>absurd k1 h⟩
  ·subst hn
   have:=RR.dir hf hx hc ho k1
   rwa [he] at this
  ·rw[he] at hj
   obtain rfl:i=j:=by omega
   exact t1
 ·rw[if_neg (by simpa using k1)]
  by_cases hs:slotOf c∈o
  ·have:=(I.ms (slotOf c)).2 hs
   rw[if_pos (show(mget m (Treach_slot.mk c.Target c.Method)).getD false=true from this)]
   exact⟨l,m,o,q,rfl,weak I,More.refl,fun h=>absurd h k1,fun _=>hs⟩
  ·have hs':¬(mget m (slotOf c)).getD false=true:=fun h=>hs ((I.ms _).1 h)
   rw[if_neg (show ¬(mget m (Treach_slot.mk c.Target c.Method)).getD false=true from hs'),if_pos (by have:=I.mu;simp;omega)]
   obtain⟨l',q',e1,g1,t1⟩:=call_loop F w c md m o ty I.ml ((mget w.fitting c.Target).getD []) l q (fun t ht=>⟨W.fit _ t ht,by
    obtain⟨i,hi,hM⟩:=W.tgt c t (W.fit _ t ht) hN
    exact⟨i,by rw[I.ll];exact hi,hM⟩⟩) (by have:=I.qm;omega)
   rw[e1]
   have J:=I.grow g1 (fun n ⟨t,h1,h2,h3⟩=>RR.dis hf hx hc ho k1 h1 (fun hm=>by
    obtain⟨i,hi,rfl⟩:=W.fit _ t h1
    exact I.st i (by simpa using h2 hm)) h3)
   refine⟨l',_,_,q',rfl,⟨J.ll,J.ml,by have:=J.mu;simp;omega,J.qm,J.qr,J.sf,J.st,fun s=>?_,fun s hh=>?_,fun s hh t ht hm n hn=>?_,fun n hn=>?_⟩,⟨g1.old,fun _ h=>h,fun s h=>List.mem_append_left _ h⟩,fun h=>absurd h k1,fun _=>by simp⟩
   ·rw[mget_mput]
    by_cases h:slotOf c=s
    ·subst h;simp
    ·rw[if_neg h,I.ms s]
     constructor
     ·exact fun h2=>List.mem_append_left _ h2
     ·intro h2
      rcases List.mem_append.1 h2 with h2|h2
      ·exact h2
      ·simp at h2;exact absurd h2.symm h
   ·rcases List.mem_append.1 hh with h|h
    ·exact I.so s h
    ·simp at h;subst h;exact⟨f,x,c,hf,hx,hc,ho,k1,rfl⟩
   ·rcases List.mem_append.1 hh with h|h
    ·exact J.cls s h t ht hm n hn
    ·simp at h;subst h
     exact t1 t ht hm n (by rw[M47_m F w (show c.Method=(SC (slotOf c)).Method from rfl)];exact hn)
   ·rcases J.dn n hn with h|h|h
    ·exact .inl h
    ·exact .inr (.inl (h.mono (fun _ h=>h) (fun _ h=>h) (fun s h=>List.mem_append_left _ h)))
    ·exact .inr (.inr h)
theorem M71_eq(F:Nat)(l:List Int)(x:Int):M71 F l x=some (l.contains x):=by
 unfold M71 M94
 rw[jn_def]
 have:=idxL (g:=M94_L1 F x (some (-1))) (fun y:Int=>x==y) (fun _=>rfl) (fun y l n=>by rw[M94_L1]) l 0
 rw[show((0:Nat):Int)=0 from rfl] at this
 rw[this]
 have e:(l.any fun y=>x==y)=l.contains x:=by rw[List.contains_eq_any_beq]
 rw[e]
 cases l.contains x
 ·rfl
 ·simp
theorem make_loop(F:Nat)(w:Treach_world)(W:WOk F w)(i:Nat)(hi:i<w.g.Types.length)(hN:0<w.g.Funcs.length)(md:List Bool)(m:List (Treach_slot×Bool))(o:List Treach_slot)(ty:List Int):
  ∀(ss:List Treach_slot) (l:List Bool) (q:List Int),l.length=w.g.Funcs.length->q.length+fls l<=100000->
  ∃l' q',M45_L1 F i w md m o ty ss l q=some (l',md.set i true,q')/\Grow (fun n=>∃s,s∈ss/\(i:Int)∈fitL w s.iface/\M47 F w (SC s) i=some (n:Int)) l q l' q'/\
   ∀s,s∈ss->(i:Int)∈fitL w s.iface->∀n:Nat,M47 F w (SC s) i=some (n:Int)->tru l' n
 |[],l,q,_,_=>⟨l,q,by rw[M45_L1,Int.toNat_natCast],Grow.refl,by simp⟩
 |s::ss,l,q,hl,hb=>by
  rw[M45_L1]
  simp only[jn_def]
  rw[M71_eq,Option.bind_some]
  by_cases h:(i:Int)∈fitL w s.iface
  ·have h':(((mget w.fitting s.iface).getD ([]:List Int)).contains (i:Int))=true:=by
    have:(fitL w s.iface).contains (i:Int)=true:=by simpa using h
    exact this
   obtain⟨v,hv,hM⟩:=W.tgt (SC s) i ⟨i,hi,rfl⟩ hN
   have hM':M47 F w (TCall.mk 0 s.iface s.method ([]:List UInt8)) i=some (v:Int):=hM
   obtain⟨l',q',e1,g1,t1⟩:=add_eq F w l (md.set (Int.toNat i) true) m o ty q v (by rw[hl];exact hv) hb
   rw[if_pos h',hM',Option.bind_some,e1,Option.bind_some]
   obtain⟨l'',q'',e2,g2,t2⟩:=make_loop F w W i hi hN md m o ty ss l' q' (by rw[g1.len];exact hl) (by rw[g1.mu];exact hb)
   refine⟨l'',q'',e2,(g1.weak (fun n hn=>⟨s,by simp,h,by subst hn;exact hM⟩)).trans (g2.weak fun n ⟨u,h1,h2⟩=>⟨u,List.mem_cons_of_mem _ h1,h2⟩),fun u hu hm n hn=>?_⟩
   rcases List.mem_cons.1 hu with rfl|hu
   ·rw[hM] at hn;simp only[Option.some.injEq] at hn
    obtain rfl:v=n:=by omega
    exact g2.old _ t1
   ·exact t2 u hu hm n hn
  ·have h':¬(((mget w.fitting s.iface).getD ([]:List Int)).contains (i:Int))=true:=by
    have:¬(fitL w s.iface).contains (i:Int)=true:=by simpa using h
    exact this
   rw[if_neg h']
   obtain⟨l'',q'',e2,g2,t2⟩:=make_loop F w W i hi hN md m o ty ss l q hl hb
   refine⟨l'',q'',e2,g2.weak fun n ⟨u,h1,h2⟩=>⟨u,List.mem_cons_of_mem _ h1,h2⟩,fun u hu hm n hn=>?_⟩
   rcases List.mem_cons.1 hu with rfl|hu
   ·exact absurd hm h
   ·exact t2 u hu hm n hn
theorem inv_make{F:Nat}{w:Treach_world}(W:WOk F w){l md:List Bool}{m:List (Treach_slot×Bool)}{o:List Treach_slot}{q:List Int}{b z:Nat}{E:Nat->Prop}(I:Inv F w l md m o q b z E)
  (i:Nat) (hi:i<w.g.Types.length) (hN:0<w.g.Funcs.length) (hr:RR F w true i) (ty:List Int):
  ∃l' md' q',M45 F i w l md m o ty q=some (l',md',q')/\Inv F w l' md' m o q' b z E/\More l md o l' md' o/\tru md' i:=by
 have him:i<md.length:=by rw[I.ml];exact hi
 unfold M45
 rw[idx_nat him,Option.bind_some]
 cases hmd:md[i]
 ·rw[if_neg (by simp),Option.bind_some]
  have base:Inv F w l (md.set i true) m o q b z E\/w.made=true:=by
   by_cases hm:w.made=true
   ·exact .inr hm
   ·refine .inl ⟨I.ll,by simp[I.ml],I.mu,I.qm,I.qr,I.sf,fun n hn=>?_,I.ms,I.so,fun s hs t ht _ n hn=>I.cls s hs t ht (fun h=>absurd h hm) n hn,fun n hn=>?_⟩
    ·rcases(tru_set him).1 hn with rfl|h
     ·exact hr
     ·exact I.st n h
    ·rcases I.dn n hn with h|h|h
     ·exact .inl h
     ·exact .inr (.inl (h.mono (fun _ h=>h) (fun n h=>(tru_set him).2 (.inr h)) (fun _ h=>h)))
     ·exact .inr (.inr h)
  by_cases hm:w.made=true
  ·rw[if_neg (by simp[hm])]
   obtain⟨l',q',e1,g1,t1⟩:=make_loop F w W i hi hN md m o ty o l q I.ll (by have:=I.qm;omega)
   rw[e1]
   have hA:∀n:Nat,(∃s,s∈o/\(i:Int)∈fitL w s.iface/\M47 F w (SC s) i=some (n:Int))->RR F w false n:=by
    rintro n ⟨s,h1,h2,h3⟩
    obtain⟨f,x,c,c1,c2,c3,c4,c5,rfl⟩:=I.so s h1
    exact RR.dis c1 c2 c3 c4 c5 h2 (fun _=>hr) (by rw[M47_m F w (show c.Method=(SC (slotOf c)).Method from rfl)];exact h3)
   have J:=I.grow g1 hA
   refine⟨l',md.set i true,q',rfl,⟨J.ll,by simp[I.ml],J.mu,J.qm,J.qr,J.sf,fun n hn=>?_,J.ms,J.so,fun s hs t ht htm n hn=>?_,fun n hn=>?_⟩,⟨g1.old,fun n h=>(tru_set him).2 (.inr h),fun _ h=>h⟩,(tru_set him).2 (.inl rfl)⟩
   ·rcases(tru_set him).1 hn with rfl|h
    ·exact hr
    ·exact I.st n h
   ·obtain⟨j,hj,rfl⟩:=W.fit _ t ht
    by_cases hij:j=i
    ·subst hij;exact t1 s hs ht n hn
    ·refine J.cls s hs _ ht (fun hm=>?_) n hn
     have:=htm hm
     rw[Int.toNat_natCast] at this ⊢
     rcases(tru_set him).1 this with h|h
     ·exact absurd h hij
     ·exact h
   ·rcases J.dn n hn with h|h|h
    ·exact .inl h
    ·exact .inr (.inl (h.mono (fun _ h=>h) (fun n h=>(tru_set him).2 (.inr h)) (fun _ h=>h)))
    ·exact .inr (.inr h)
  ·rw[if_pos (by simpa using hm),Int.toNat_natCast]
   rcases base with J|J
   ·exact⟨l,md.set i true,q,rfl,J,⟨fun _ h=>h,fun n h=>(tru_set him).2 (.inr h),fun _ h=>h⟩,(tru_set him).2 (.inl rfl)⟩
   ·exact absurd J hm
 ·rw[if_pos rfl]
  exact⟨l,md,q,rfl,I,More.refl,by unfold tru;rw[List.getElem?_eq_getElem him,hmd]⟩
abbrev K5:=List Bool->List Bool->List (Treach_slot×Bool)->List Treach_slot->List Int->Option (Option Treach_spread)
theorem idx_mem{α:Type}{a:List α}{n:Int}{x:α}(h:idx a n=some x):x∈a:=by
 unfold idx at h
 split at h
 ·exact List.mem_of_getElem? h
 ·simp at h
theorem calls_loop{F:Nat}{w:Treach_world}(W:WOk F w)(k20:K5)(k69:List Bool->List (Treach_slot×Bool)->List Treach_slot->List Int->Option (Option Treach_spread))(md:List Bool){E:Nat->Prop}{f:Int}{x:TFunc}(hf:RR F w false f)(hx:idx w.g.Funcs f=some x)(hN:0<w.g.Funcs.length):
  ∀(cs:List TCall) (l:List Bool) (m:List (Treach_slot×Bool)) (o:List Treach_slot) (q:List Int) (b z:Nat),(∀c,c∈cs->c∈x.Calls)->Inv F w l md m o q (b+cs.length) z E->
  ∃l' m' o' q',M16_L4 F w (-1) md k20 k69 cs l m o q=k69 l' m' o' q'/\Inv F w l' md m' o' q' b z E/\More l md o l' md o'/\∀c,c∈cs->onB w c.Feature=true->(c.Kind=1->∀i:Nat,fI w c.Target=i->tru l' i)/\(c.Kind≠1->slotOf c∈o')
 |[],l,m,o,q,b,z,_,I=>⟨l,m,o,q,rfl,I,More.refl,by simp⟩
 |c::cs,l,m,o,q,b,z,hc,I=>by
  rw[M16_L4]
  simp only[jn_def]
  by_cases hon:onB w c.Feature=true
  ·have hon':¬(!((mget w.on c.Feature).getD false))=true:=by
    have:(mget w.on c.Feature).getD false=true:=hon
    simp[this]
   obtain⟨l1,m1,o1,q1,e1,I1,Ma,d1,d2⟩:=inv_call W (show Inv F w l md m o q (b+cs.length+1) z E from I) hf hx (idx_mem hx) (hc c (by simp)) hon hN []
   rw[if_neg hon',e1,Option.bind_some,if_neg (by simp)]
   obtain⟨l2,m2,o2,q2,e2,I2,Mb,d3⟩:=calls_loop W k20 k69 md hf hx hN cs l1 m1 o1 q1 b z (fun c h=>hc c (List.mem_cons_of_mem _ h)) I1
   refine⟨l2,m2,o2,q2,e2,I2,Ma.trans Mb,fun c' hc' ho'=>?_⟩
   rcases List.mem_cons.1 hc' with rfl|h
   ·exact⟨fun k i hi=>Mb.l i (d1 k i hi),fun k=>Mb.o _ (d2 k)⟩
   ·exact d3 c' h ho'
  ·have hon':(!((mget w.on c.Feature).getD false))=true:=by
    have:¬(mget w.on c.Feature).getD false=true:=hon
    simpa using this
   rw[if_pos hon']
   obtain⟨l2,m2,o2,q2,e2,I2,Mb,d3⟩:=calls_loop W k20 k69 md hf hx hN cs l m o q b z (fun c h=>hc c (List.mem_cons_of_mem _ h)) ⟨I.ll,I.ml,by have:=I.mu;simp at this;omega,I.qm,I.qr,I.sf,I.st,I.ms,I.so,I.cls,I.dn⟩
   refine⟨l2,m2,o2,q2,e2,I2,Mb,fun c' hc' ho'=>?_⟩
   rcases List.mem_cons.1 hc' with rfl|h
   ·exact absurd ho' hon
   ·exact d3 c' h ho'
theorem makes_loop{F:Nat}{w:Treach_world}(W:WOk F w)(m:List (Treach_slot×Bool))(o:List Treach_slot)(k49:List Bool->List Bool->List Int->Option (Option Treach_spread)){b z:Nat}{E:Nat->Prop}{f:Int}{x:TFunc}(hf:RR F w false f)(hx:idx w.g.Funcs f=some x)(hN:0<w.g.Funcs.length):
  ∀(ts:List Tx) (l md:List Bool) (q:List Int),(∀t,t∈ts->t∈x.Makes)->Inv F w l md m o q b z E->
  ∃l' md' q',M16_L3 F w m o k49 ts l md q=k49 l' md' q'/\Inv F w l' md' m o q' b z E/\More l md o l' md' o/\∀t,t∈ts->∀i:Nat,tI w t=i->tru md' i
 |[],l,md,q,_,I=>⟨l,md,q,rfl,I,More.refl,by simp⟩
 |t::ts,l,md,q,ht,I=>by
  obtain⟨i,hi,he⟩:=W.mks x (idx_mem hx) t (ht t (by simp))
  have he':(mget w.types t).getD 0=(i:Int):=he
  have hr:RR F w true i:=by
   have:=RR.mk hf hx (ht t (by simp))
   rwa [he] at this
  obtain⟨l1,md1,q1,e1,I1,Ma,d1⟩:=inv_make W I i hi hN hr []
  rw[M16_L3,he',e1,Option.bind_some]
  obtain⟨l2,md2,q2,e2,I2,Mb,d2⟩:=makes_loop W m o k49 hf hx hN ts l1 md1 q1 (fun t h=>ht t (List.mem_cons_of_mem _ h)) I1
  refine⟨l2,md2,q2,e2,I2,Ma.trans Mb,fun u hu j hj=>?_⟩
  rcases List.mem_cons.1 hu with rfl|hu
  ·rw[he] at hj
   obtain rfl:i=j:=by omega
   exact Mb.m _ d1
  ·exact d2 u hu j hj
theorem queue_loop{F:Nat}{w:Treach_world}(W:WOk F w)(k20:K5):∀(n:Nat) (l md:List Bool) (m:List (Treach_slot×Bool)) (o:List Treach_slot) (q:List Int) (z:Nat),Inv F w l md m o q 0 z (fun _=>False)->z<n->
  ∃l' md' m' o',M16_L2 F w (-1) k20 n l md m o q=k20 l' md' m' o' []/\(∃z,Inv F w l' md' m' o' [] 0 z (fun _=>False))/\More l md o l' md' o'
 |0,l,md,m,o,q,z,_,h=>by omega
 |n+1,l,md,m,o,[],z,I,h=>⟨l,md,m,o,by rw[M16_L2,if_f (by simp)],⟨z,I⟩,More.refl⟩
 |n+1,l,md,m,o,f::q,z,I,h=>by
  obtain⟨i,hfi,hti⟩:=I.qr f (by simp)
  subst hfi
  have hil:i<l.length:=tru_lt hti
  have hiF:i<w.g.Funcs.length:=by rw[<-I.ll];exact hil
  have hN:0<w.g.Funcs.length:=by omega
  have hf:=I.sf i hti
  have hx:idx w.g.Funcs (i:Int)=some w.g.Funcs[i]:=idx_nat hiF
  generalize hxx:w.g.Funcs[i]=x at hx
  rw[M16_L2]
  simp only[jn_def]
  rw[if_t (by simp),show idx ((i:Int)::q) 0=some (i:Int) from rfl,Option.bind_some,if_pos (by simp),if_neg (by simp),hx,Option.bind_some,List.drop_one,List.tail_cons]
  simp only[Option.bind_some]
  have mu0:=I.mu
  have qm0:=I.qm
  simp only[List.length_cons] at mu0 qm0
  have I0:Inv F w l md m o q 200 (z - 1) (fun k=>k=i):=⟨I.ll,I.ml,by omega,⟨by omega,by omega⟩,fun y hy=>I.qr y (List.mem_cons_of_mem _ hy),I.sf,I.st,I.ms,I.so,I.cls,fun k hk=>by
   rcases I.dn k hk with h|h|h
   ·rcases List.mem_cons.1 h with h|h
    ·exact .inr (.inr (by omega))
    ·exact .inl h
   ·exact .inr (.inl h)
   ·exact h.elim⟩
  obtain⟨l1,md1,q1,e1,I1,Ma,d1⟩:=makes_loop W m o (fun l50 l51 l52=>M16_L4 F w (-1) l51 k20 (fun l70 m71 l72 l73=>M16_L2 F w (-1) k20 n l70 l51 m71 l72 l73) x.Calls l50 m o l52) hf hx hN x.Makes l md q (fun _ h=>h) I0
  rw[e1]
  have hcl:=W.cl x (idx_mem hx)
  obtain⟨l2,m2,o2,q2,e2,I2,Mb,d2⟩:=calls_loop W k20 (fun l70 m71 l72 l73=>M16_L2 F w (-1) k20 n l70 md1 m71 l72 l73) md1 hf hx hN x.Calls l1 m o q1 (200 - x.Calls.length) (z - 1) (fun _ h=>h) (by rw[show 200 - x.Calls.length+x.Calls.length=200 by omega];exact I1)
  rw[e2]
  have hdone:Done F w l2 md1 o2 i:=fun y hy=>by
   rw[hx] at hy;simp only[Option.some.injEq] at hy;subst hy
   exact⟨fun t ht j hj=>d1 t ht j hj,fun c hc ho=>d2 c hc ho⟩
  have I3:Inv F w l2 md1 m2 o2 q2 0 (z - 1) (fun _=>False):=⟨I2.ll,I2.ml,by have:=I2.mu;omega,I2.qm,I2.qr,I2.sf,I2.st,I2.ms,I2.so,I2.cls,fun k hk=>by
   rcases I2.dn k hk with h|h|h
   ·exact .inl h
   ·exact .inr (.inl h)
   ·have h:k=i:=h
    subst h;exact .inr (.inl hdone)⟩
  obtain⟨l3,md3,m3,o3,e3,I4,Mc⟩:=queue_loop W k20 n l2 md1 m2 o2 q2 (z - 1) I3 (by omega)
  exact⟨l3,md3,m3,o3,e3,I4,(Ma.trans Mb).trans Mc⟩
theorem entries_loop{F:Nat}{w:Treach_world}(W:WOk F w)(k5:List Bool->List Int->Option (Option Treach_spread))(md:List Bool)(hmd:md=List.replicate (((w.g.Types.length:Nat):Int)).toNat false):
  ∀(es:List Tx) (l:List Bool) (q:List Int) (b z:Nat),(∀e,e∈es->e∈w.g.Entries)->Inv F w l md [] [] q b z (fun _=>False)->
  ∃l' q',M16_L1 F w k5 es l q=k5 l' q'/\Inv F w l' md [] [] q' b z (fun _=>False)/\(∀n,tru l n->tru l' n)/\∀e,e∈es->∀i:Nat,fI w e=i->tru l' i
 |[],l,q,b,z,_,I=>⟨l,q,rfl,I,fun _ h=>h,by simp⟩
 |e::es,l,q,b,z,he,I=>by
  obtain⟨i,hi,hfe⟩:=W.ent e (he e (by simp))
  have hfe':(mget w.funcs e).getD 0=(i:Int):=hfe
  obtain⟨l1,q1,e1,g1,t1⟩:=add_eq F w l md [] [] [] q i (by rw[I.ll];exact hi) (by have:=I.qm;omega)
  rw[M16_L1,hfe',<-hmd,e1,Option.bind_some]
  have I1:=I.grow g1 (fun n hn=>by
   subst hn
   have:=RR.entry (F:=F) (he e (by simp))
   rwa [hfe] at this)
  obtain⟨l2,q2,e2,I2,m2,d2⟩:=entries_loop W k5 md hmd es l1 q1 b z (fun e h=>he e (List.mem_cons_of_mem _ h)) I1
  refine⟨l2,q2,e2,I2,fun n h=>m2 n (g1.old n h),fun u hu j hj=>?_⟩
  rcases List.mem_cons.1 hu with rfl|hu
  ·rw[hfe] at hj
   obtain rfl:i=j:=by omega
   exact m2 _ t1
  ·exact d2 u hu j hj
theorem tru_rep{n k:Nat}:¬tru (List.replicate n false) k:=by
 unfold tru
 rw[List.getElem?_replicate]
 split<;>simp
theorem fls_rep(n:Nat):fls (List.replicate n false)=n:=by
 unfold fls
 rw[List.countP_replicate];simp
theorem spread_eq{F:Nat}{w:Treach_world}(W:WOk F w)(hF:10000<=F):∃sp,M16 F w (-1)=some (some sp)/\sp.funcs.length=w.g.Funcs.length/\sp.made.length=w.g.Types.length/\
  (∀n:Nat,tru sp.funcs n<->n<w.g.Funcs.length/\RR F w false n)/\∀n:Nat,tru sp.made n<->n<w.g.Types.length/\RR F w true n:=by
 have hfl:=W.fl
 have htl:=W.tl
 unfold M16
 rw[if_pos (by omega),if_pos (by omega)]
 simp only[jn_def]
 have I0:Inv F w (List.replicate (((w.g.Funcs.length:Nat):Int)).toNat false) (List.replicate (((w.g.Types.length:Nat):Int)).toNat false) [] [] [] 0 w.g.Funcs.length (fun _=>False):=
  ⟨by simp,by simp,by rw[fls_rep];simp;omega,⟨by rw[fls_rep];simp,by omega⟩,by simp,fun n h=>(tru_rep h).elim,fun n h=>(tru_rep h).elim,fun s=>by simp[mget],by simp,by simp,fun n h=>(tru_rep h).elim⟩
 obtain⟨l1,q1,e1,I1,_,d1⟩:=entries_loop W (fun l6 l7=>M16_L2 F w (-1) (fun l21 l22 m23 l24 l25=>some (some (Treach_spread.mk (some w) l21 l22 m23 l24 ([]:List Int) l25))) F l6 (List.replicate (((w.g.Types.length:Nat):Int)).toNat false) [] [] l7) _ rfl w.g.Entries _ [] 0 w.g.Funcs.length (fun _ h=>h) I0
 obtain⟨l2,md2,m2,o2,e2,⟨z,I2⟩,Mb⟩:=queue_loop W (fun l21 l22 m23 l24 l25=>some (some (Treach_spread.mk (some w) l21 l22 m23 l24 ([]:List Int) l25))) F l1 (List.replicate (((w.g.Types.length:Nat):Int)).toNat false) [] [] q1 w.g.Funcs.length I1 (by omega)
 refine⟨Treach_spread.mk (some w) l2 md2 m2 o2 [] [],by rw[e1,e2],I2.ll,I2.ml,?_,?_⟩
 all_goals
  have key:∀b v,RR F w b v->(∃n:Nat,v=n/\n<(if b then w.g.Types.length else w.g.Funcs.length))/\∀n:Nat,v=n->if b then tru md2 n else tru l2 n:=by
   intro b v h
   induction h with
   | @entry e h=>
    obtain⟨i,hi,he⟩:=W.ent e h
    refine⟨⟨i,he,by simpa using hi⟩,fun n hn=>?_⟩
    simpa using Mb.l n (d1 e h n hn)
   | @dir f x c hf hx hc ho k ih=>
    obtain⟨⟨j,hj,hjl⟩,ih⟩:=ih
    have ht:tru l2 j:=by simpa using ih j hj
    subst hj
    obtain⟨i,hi,he⟩:=W.dir x (idx_mem hx) c hc
    refine⟨⟨i,he,by simpa using hi⟩,fun n hn=>?_⟩
    rcases I2.dn j ht with h|h|h
    ·simp at h
    ·simpa using ((h x hx).2 c hc ho).1 k n hn
    ·exact h.elim
   | @dis f t v x c hf hx hc ho k ht hm hv ih ihm=>
    obtain⟨⟨j,hj,hjl⟩,ih⟩:=ih
    have htr:tru l2 j:=by simpa using ih j hj
    subst hj
    have hN:0<w.g.Funcs.length:=by simp at hjl;omega
    obtain⟨i,hi,he⟩:=W.tgt c t (W.fit _ t ht) hN
    rw[hv] at he;simp only[Option.some.injEq] at he
    refine⟨⟨i,he,by simpa using hi⟩,fun n hn=>?_⟩
    rcases I2.dn j htr with h|h|h
    ·simp at h
    ·have hs:=((h x hx).2 c hc ho).2 k
     have:=I2.cls (slotOf c) hs t ht (fun hmm=>by
      obtain⟨a,ha,hta⟩:=W.fit _ t ht
      have:=(ihm hmm).2 a hta
      rw[hta,Int.toNat_natCast]
      simpa using this) n (by rw[M47_m F w (show(SC (slotOf c)).Method=c.Method from rfl),hv,hn])
     simpa using this
    ·exact h.elim
   | @mk f x t hf hx ht ih=>
    obtain⟨⟨j,hj,hjl⟩,ih⟩:=ih
    have htr:tru l2 j:=by simpa using ih j hj
    subst hj
    obtain⟨i,hi,he⟩:=W.mks x (idx_mem hx) t ht
    refine⟨⟨i,he,by simpa using hi⟩,fun n hn=>?_⟩
    rcases I2.dn j htr with h|h|h
    ·simp at h
    ·simpa using (h x hx).1 t ht n hn
    ·exact h.elim
 ·intro n
  constructor
  ·exact fun h=>⟨by rw[<-I2.ll];exact tru_lt h,I2.sf n h⟩
  ·exact fun⟨_,h⟩=>by simpa using (key _ _ h).2 n rfl
 ·intro n
  constructor
  ·exact fun h=>⟨by rw[<-I2.ml];exact tru_lt h,I2.st n h⟩
  ·exact fun⟨_,h⟩=>by simpa using (key _ _ h).2 n rfl
theorem nums_val(x:Tx)(v:Int):∀(l:List Tx) (m:NumM) (n:Int),mget (nums m n l) x=some v->mget m x=some v\/n<=v/\v<n+l.length
 |[],m,n,h=>.inl h
 |y::l,m,n,h=>by
  rcases nums_val x v l _ _ h with h|h
  ·rw[mget_mput] at h
   split at h
   ·simp at h;subst h;exact .inr ⟨by omega,by simp;omega⟩
   ·exact .inl h
  ·exact .inr ⟨by omega,by simp;omega⟩
theorem nums_range(l:List Tx)(x:Tx)(hl:0<l.length):∃i:Nat,i<l.length/\(mget (nums [] 0 l) x).getD 0=i:=by
 cases h:mget (nums [] 0 l) x with
 |none=>exact⟨0,hl,rfl⟩
 |some v=>
  rcases nums_val x v l [] 0 h with h1|h1
  ·simp[mget] at h1
  ·exact⟨v.toNat,by omega,by simp;omega⟩
theorem srt_names{α:Type}{f:α->Tx}{l:List α}(h:l.Pairwise (fun a b=>Op.bytesLess (f a) (f b)=true)):(l.map f).Pairwise (fun a b=>Op.bytesLess a b=true):=by
 rw[List.pairwise_map];exact h
theorem wok{F:Nat}(hF:1000<=F){g:TGraph}(R:RightG g)(how:Int)(fs:List Tx):WOk F (wOf g how fs) where
 fl:=R.fl
 tl:=R.tl
 ent:=fun e he=>by
  have h:=R.e e he
  unfold fsOf at h
  have h:e∈g.Funcs.map (·.Name):=by simpa using h
  obtain⟨i,hi,rfl⟩:=List.getElem_of_mem h
  refine⟨i,show i<g.Funcs.length by simpa using hi,?_⟩
  unfold fI wOf
  simp only
  rw[nums_get _ _ _ _ hi (srt_names R.fsrt)];simp
 cl:=fun x hx=>(R.f x hx).len
 mks:=fun x hx t ht=>by
  have h:=(R.f x hx).makes t ht
  unfold tsOf at h
  have h:t∈g.Types.map (·.Name):=by simpa using h
  obtain⟨i,hi,rfl⟩:=List.getElem_of_mem h
  refine⟨i,show i<g.Types.length by simpa using hi,?_⟩
  unfold tI wOf
  simp only
  rw[nums_get _ _ _ _ hi (srt_names R.tsrt)];simp
 dir:=fun x hx c hc=>by
  have hN:0<(g.Funcs.map (·.Name)).length:=by
   have:0<g.Funcs.length:=List.length_pos_iff.2 (by intro e;have hx:x∈g.Funcs:=hx;rw[e] at hx;simp at hx)
   simpa using this
  obtain⟨i,hi,he⟩:=nums_range (g.Funcs.map (·.Name)) c.Target hN
  exact⟨i,show i<g.Funcs.length by simpa using hi,he⟩
 fit:=fun s t ht=>by
  unfold fitL wOf at ht
  simp only at ht
  rw[fitM_get g.Types s g.Ifaces [] R.isrt] at ht
  simp only[mget,Option.getD_none,List.nil_append] at ht
  cases hf:g.Ifaces.find? (fun x=>x.Name==s) with
  |none=>rw[hf] at ht;simp at ht
  |some x=>
   rw[hf] at ht
   obtain⟨i,hi,he,_⟩:=(fitIdx_mem x g.Types 0 t).1 ht
   exact⟨i,hi,by omega⟩
 tgt:=fun c t ⟨i,hi,he⟩ hN=>by
  subst he
  have hi:i<g.Types.length:=hi
  have hT:=R.t g.Types[i] (List.getElem_mem _)
  obtain⟨j,hj,hf⟩:=nums_range (g.Funcs.map (·.Name)) (mOf g.Types[i] c.Method).1 (by have hN:0<g.Funcs.length:=hN;simpa using hN)
  refine⟨j,show j<g.Funcs.length by simpa using hj,?_⟩
  unfold M47
  rw[show idx (wOf g how fs).g.Types (i:Int)=some g.Types[i] from idx_nat hi,Option.bind_some,M72_eq F _ _ hT.len hT.srt hF,Option.bind_some]
  exact congrArg some hf
theorem RR.mono{F:Nat}{g:TGraph}{h1 h2:Int}{f1 f2:List Tx}(ho:∀x,onB (wOf g h1 f1) x=true->onB (wOf g h2 f2) x=true)(hm:(wOf g h2 f2).made=true->(wOf g h1 f1).made=true):
  ∀{b:Bool} {v:Int},RR F (wOf g h1 f1) b v->RR F (wOf g h2 f2) b v:=by
 intro b v h
 induction h with
 |entry h=>exact RR.entry (w:=wOf g h2 f2) h
 |dir hf hx hc hon k ih=>exact RR.dir (w:=wOf g h2 f2) ih hx hc (ho _ hon) k
 |dis hf hx hc hon k ht hmm hv ih ihm=>exact RR.dis (w:=wOf g h2 f2) ih hx hc (ho _ hon) k ht (fun h=>ihm (hm h)) hv
 |mk hf hx ht ih=>exact RR.mk (w:=wOf g h2 f2) ih hx ht
theorem onB_eq(g:TGraph)(how:Int)(fs:List Tx)(x:Tx):onB (wOf g how fs) x=(decide (x=[])||fs.contains x):=by
 unfold onB wOf
 simp only
 have:=has_sset x fs (mput [] [] true)
 unfold has at this
 rw[this]
 congr 1
 rw[mget_mput]
 by_cases h:x=[]
 ·subst h;simp
 ·rw[if_neg (fun e=>h e.symm)];simp[mget,h]
def ifG(g:TGraph)(n:Tx):TIface:=(g.Ifaces.find? fun x=>x.Name==n).getD (TIface.mk [] [])
def aimO(g:TGraph)(c:TCall)(t:TType):Option Tprovenderref6_aim:=if (mOf t c.Method).2=true/\fitB t (ifG g c.Target)=true then some (Tprovenderref6_aim.mk t.Name (mOf t c.Method).1) else none
def aimsG(g:TGraph)(c:TCall):List Tprovenderref6_aim:=if c.Kind=1 then [Tprovenderref6_aim.mk [] c.Target] else g.Types.filterMap (aimO g c)
def lks(g:TGraph)(on:Tx->Bool)(name:Tx):Int->List TCall->List Tprovenderref6_link
 |_,[]=>[]
 |n,c::l=>if on c.Feature=true then Tprovenderref6_link.mk (TSite.mk name n) (aimsG g c)::lks g on name (n+1) l else lks g on name (n+1) l
theorem lks_len(g:TGraph)(on:Tx->Bool)(name:Tx):∀(l:List TCall) (n:Int),(lks g on name n l).length<=l.length
 |[],_=>by simp[lks]
 |c::l,n=>by
  rw[lks]
  have:=lks_len g on name l (n+1)
  split<;>simp<;>omega
def onF(fs:List Tx)(x:Tx):Bool:=decide (x=[])||fs.contains x
inductive RN(g:TGraph)(how:Int)(on:Tx->Bool):Bool->Tx->Prop
 |entry {e:Tx} (h:e∈g.Entries):RN g how on false e
 |aim {x:TFunc} {c:TCall} {a:Tprovenderref6_aim} (hf:RN g how on false x.Name) (hx:x∈g.Funcs) (hc:c∈x.Calls) (ho:on c.Feature=true) (ha:a∈aimsG g c) (hm:how≠1->a.typ≠[]->RN g how on true a.typ):RN g how on false a.to
 |mk {x:TFunc} {t:Tx} (hf:RN g how on false x.Name) (hx:x∈g.Funcs) (ht:t∈x.Makes):RN g how on true t
theorem in_names{g:TGraph}{x:Tx}:fsOf g x=true<->∃f,f∈g.Funcs/\f.Name=x:=by
 unfold fsOf;simp
theorem in_types{g:TGraph}{x:Tx}:tsOf g x=true<->∃f,f∈g.Types/\f.Name=x:=by
 unfold tsOf;simp
theorem mOf_some{t:TType}{m:Tx}(h:(mOf t m).2=true):∃y,y∈t.Methods/\y.Name=m/\(mOf t m).1=y.Func:=by
 unfold mOf at h ⊢
 cases hf:t.Methods.find? (fun y=>y.Name==m) with
 |none=>rw[hf] at h;simp at h
 |some y=>exact⟨y,List.mem_of_find?_eq_some hf,by have:=List.find?_some hf;simpa using this,rfl⟩
theorem aim_fs{g:TGraph}(R:RightG g){x:TFunc}(hx:x∈g.Funcs){c:TCall}(hc:c∈x.Calls){a:Tprovenderref6_aim}(ha:a∈aimsG g c):fsOf g a.to=true:=by
 have C:=(R.f x hx).calls c hc
 unfold aimsG at ha
 split at ha
 ·rename_i hk
  simp at ha;subst ha
  rcases C.kind with ⟨_,h,_⟩|⟨h,_⟩
  ·exact h
  ·rw[hk] at h;simp at h
 ·obtain⟨t,ht,h⟩:=List.mem_filterMap.1 ha
  unfold aimO at h
  split at h
  ·rename_i h1
   simp at h;subst h
   obtain⟨y,h2,_,h3⟩:=mOf_some h1.1
   show fsOf g (mOf t c.Method).1=true
   rw[h3];exact((R.t t ht).mn y h2).2
  ·simp at h
theorem RN.names{g:TGraph}(R:RightG g){how:Int}{on:Tx->Bool}{b:Bool}{y:Tx}(h:RN g how on b y):if b then tsOf g y=true else fsOf g y=true:=by
 cases h with
 |entry h=>exact R.e _ h
 |aim hf hx hc ho ha hm=>exact aim_fs R hx hc ha
 |mk hf hx ht=>exact(R.f _ hx).makes _ ht
end Go.Proofs.YtcihpgamojpcnaaGreat
