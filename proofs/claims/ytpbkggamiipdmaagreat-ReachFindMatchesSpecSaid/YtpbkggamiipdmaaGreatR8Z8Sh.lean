/- Part of the proof: ZP8g, Z8Told, ZP8, Z8Sh. -/
import Derived.Test.YtpbkggamiipdmaaGreatR8ZP8f
import Derived.Test.YtpbkggamiipdmaaGreatR8Z8M
import Derived.KernelRfl
import Derived.Shelf.Strconv.Itoa0
import Derived.Shelf.Sort.Plain
import Derived.Ground.Names2Prog
import Derived.Shelf.Slices.CompactI
import Derived.Shelf.Slices.CompactS
import Derived.Shelf.Slices.SearchI
import Derived.Shelf.Slices.In.SortNone
import Derived.Ground.SlsfProg
import Derived.Shelf.SlSortCmp.WholeK
import Derived.Shelf.SlSortCmp.NoneTotal
import Derived.Test.YtpbkggamiipdmaaGreatProg
namespace Go.Proofs.YtpbkggamiipdmaaGreat
open Go Go.Pv
set_option linter.unusedVariables false
theorem nt_bl{a b c:Tx}(h:Op.bytesLess a b=false)(h':Op.bytesLess b c=false):Op.bytesLess a c=false:=by
 have:=q2y c b a (by simp[leT,h']) (by simp[leT,h])
 simpa[leT] using this
theorem cltM_by{α:Type}{cmp:α->α->Option Int}{x y:α}{a b:Tx}(h:cmp x y=some (if Op.bytesLess a b=true then -1 else if a=b then 0 else 1)):(cmp x y).isSome=true/\q5p cmp x y=Op.bytesLess a b:=by
 refine⟨by rw[h];rfl,?_⟩
 unfold q5p
 rw[h]
 cases hb:Op.bytesLess a b with
 |true=>rw[if_pos rfl];rfl
 |false=>
  rw[if_neg (by simp)]
  by_cases e:a=b
  ·rw[if_pos e];rfl
  ·rw[if_neg e];rfl
theorem inj_nm{α:Type}{nm:α->Tx}:∀{l:List α},(l.map nm).Nodup->∀x,x∈l->∀y,y∈l->nm x=nm y->x=y
 |[],_,x,hx,_,_,_=>by simp at hx
 |z::l,h,x,hx,y,hy,e=>by
  rw[List.map_cons,List.nodup_cons] at h
  rcases List.mem_cons.1 hx with e1|hx2
  ·rcases List.mem_cons.1 hy with e2|hy2
   ·rw[e1,e2]
   ·exact absurd (List.mem_map.2 ⟨y,hy2,by rw[<-e,e1]⟩) h.1
  ·rcases List.mem_cons.1 hy with e2|hy2
   ·exact absurd (List.mem_map.2 ⟨x,hx2,by rw[e,e2]⟩) h.1
   ·exact inj_nm h.2 x hx2 y hy2 e
theorem srtM_name{α:Type}{nm:α->Tx}{cmp:α->α->Option Int}(hc:∀x y,(cmp x y).isSome=true/\q5p cmp x y=Op.bytesLess (nm x) (nm y)){l s:List α}(hn:(l.map nm).Nodup)(hs:s.Pairwise fun x y=>Op.bytesLess (nm x) (nm y)=true)(hp:l.Perm s)(hl:l.length<4611686018427387904):srtM cmp l=some s:=by
 have hlt:∀x y,q5p cmp x y=Op.bytesLess (nm x) (nm y):=fun x y=>(hc x y).2
 have h1:swoM cmp l=true:=by
  unfold swoM
  refine List.all_eq_true.2 fun x _=>?_
  rw[Bool.and_eq_true]
  refine⟨by rw[hlt,q9n];rfl,List.all_eq_true.2 fun y _=>?_⟩
  rw[Bool.and_eq_true]
  refine⟨(hc x y).1,List.all_eq_true.2 fun z _=>?_⟩
  rw[hlt,hlt,hlt]
  cases e1:Op.bytesLess (nm x) (nm y)<;>cases e2:Op.bytesLess (nm y) (nm z)
  ·rw[nt_bl e1 e2];rfl
  ·simp
  ·simp
  ·rw[q8m e1 e2];rfl
 have h2:dstM cmp l=true:=by
  rw[dstM_pw]
  rw[List.nodup_iff_pairwise_ne,List.pairwise_map] at hn
  refine hn.imp fun {x y} g=>?_
  rw[hlt,hlt]
  rcases z7i (nm x) (nm y) with q|q|q
  ·rw[q];rfl
  ·exact absurd q g
  ·rw[q];simp
 have hms:(l.mergeSort fun x y=>!q5p cmp y x)=s:=by
  refine List.Perm.eq_of_pairwise (le:=fun x y=>leT (nm x) (nm y)=true) (fun x y hx hy g g'=>?_) ?_ (hs.imp fun g=>leT_of_lt g) ((List.mergeSort_perm _ _).trans hp)
  ·have e:=leT_anti g g'
   have hx':=(List.mergeSort_perm _ _).mem_iff.1 hx
   have hy':=hp.mem_iff.2 hy
   apply Classical.byContradiction
   intro hne
   exact hne (inj_nm hn x hx' y hy' e)
  ·refine(List.pairwise_mergeSort (le:=fun x y=>!q5p cmp y x) (fun a b c g g'=>?_) (fun a b=>?_) l).imp (fun {x y} g=>?_)
   ·rw[hlt] at *;exact q2y (nm a) (nm b) (nm c) g g'
   ·rw[hlt,hlt];exact z4c (nm a) (nm b)
   ·rw[hlt] at g;exact g
 unfold srtM
 rw[h1,h2,hms,ascM_of (hs.imp fun {x y} g=>by rw[hlt];exact q5r g),show Nat.blt l.length 4611686018427387904=true from by rw[Nat.blt_eq];exact hl]
 rfl
section
variable{g:q3c}{how:Int}{fs:List Tx}{sp:q2c}{n:q2b}{s:q4a}{t:Nat}{d:List Int}{m:List (Tx×Int)}
def mbT(g:q3c)(s:q4a)(ty:Tx):q6c:=q6c.mk ty (mkr g s ty)
theorem putT_keys(y:Tx):∀(ts:List Tx) (mm:List (Tx×Bool)),y∈(putT mm ts).map (·.1)<->y∈ts\/y∈mm.map (·.1)
 |[],mm=>by simp[putT]
 |x::ts,mm=>by
  have:=putT_keys y ts (q7f mm x true)
  unfold putT at this ⊢
  rw[List.foldl_cons,this,z3c]
  by_cases h:x∈mm.map (·.1)
  ·rw[if_pos h,List.mem_cons]
   exact⟨fun q=>q.elim (fun q=>.inl (.inr q)) .inr,fun q=>q.elim (fun q=>q.elim (fun q=>.inr (by rw[q];exact h)) .inl) .inr⟩
  ·rw[if_neg h,List.mem_append,List.mem_singleton,List.mem_cons]
   exact⟨fun q=>q.elim (fun q=>.inl (.inr q)) (fun q=>q.elim .inr (fun q=>.inl (.inl q))),fun q=>q.elim (fun q=>q.elim (fun q=>.inr (.inr q)) .inl) (fun q=>.inr (.inl q))⟩
theorem putT_nd:∀(ts:List Tx) (mm:List (Tx×Bool)),(mm.map (·.1)).Nodup->((putT mm ts).map (·.1)).Nodup
 |[],mm,h=>h
 |x::ts,mm,h=>by
  have:=putT_nd ts (q7f mm x true) (by
   rw[z3c]
   split
   ·exact h
   ·rename_i hx
    exact List.nodup_append.2 ⟨h,by simp,fun a ha b hb=>by simp only[List.mem_singleton] at hb;subst hb;intro e;subst e;exact hx ha⟩)
  exact this
theorem z1b.types{T x:Tx}{hs:List q6k}{ts:List Tx}(h:z1b g how fs T x hs ts):∀y,y∈ts->RN g how (onF fs) true y:=by
 induction h with
 |nil=>simp
 |all _ _ _ _ _ ih=>exact ih
 |dis _ _ _ _ _ _ _ hr _ ih=>
  intro y hy
  rcases List.mem_cons.1 hy with rfl|hy
  ·exact hr
  ·exact ih y hy
theorem z1b.one{T x:Tx}{hs:List q6k}{ts:List Tx}(h:z1b g how fs T x hs ts)(h1:how=1):ts=[]:=by
 induction h with
 |nil=>rfl
 |all _ _ _ _ _ ih=>exact ih
 |dis _ _ h2=>exact absurd h1 h2
def tyL(ts:List Tx):List Tx:=srtT ((putT [] ts).map (·.1))
theorem tyL_mem(ts:List Tx)(y:Tx):y∈tyL ts<->y∈ts:=by
 unfold tyL
 rw[(q6n _).mem_iff,putT_keys];simp
theorem tyL_srt(ts:List Tx):(tyL ts).Pairwise fun a b=>Op.bytesLess a b=true:=
 lt_of_sorted (z3g _) ((q6n _).nodup_iff.2 (putT_nd ts [] (by simp)))
theorem tyL_len(R:q5g g){ts:List Tx}(h:∀y,y∈ts->RN g how (onF fs) true y):(tyL ts).length<=500:=by
 have:=List.Nodup.length_le_of_subset (q3w (tyL_srt ts)) (l₂:=g.Types.map q0i.Name) (fun y hy=>by
  obtain⟨i,hi,rfl⟩:=ts_at ((h y ((tyL_mem ts y).1 hy)).names R)
  exact List.mem_map_of_mem (List.getElem_mem hi))
 simp only[List.length_map] at this
 have:=R.tl
 omega
theorem putT_len(ts:List Tx):(putT [] ts).length=(tyL ts).length:=by
 unfold tyL
 rw[(q6n _).length_eq,List.length_map]
theorem M99_by(F:Nat)(x y:q6c):M99 F x y=some (if Op.bytesLess x.Type_ y.Type_=true then -1 else if x.Type_=y.Type_ then 0 else 1):=by
 unfold M99
 rw[M100_eq,Option.bind_some]
theorem M28_L3_ok(F:Nat)(x:q5e)(l:List q6k){ts:List Tx}(hl:(tyL ts).length<=500):q7v F x l ((putT [] ts).map (mkE g s)) []=some (q8e.mk x.Name l ((tyL ts).map (mbT g s)),true,0):=by
 have hlen:=putT_len ts
 rw[M28_L3_eq,if_pos (.inr (by simp only[List.length_nil,List.length_map];omega))]
 unfold fin28
 rw[q7v,List.nil_append]
 have hmap:((putT [] ts).map (mkE g s)).map (fun e=>q6c.mk e.1 e.2)=((putT [] ts).map (·.1)).map (mbT g s):=by
  rw[List.map_map,List.map_map];rfl
 rw[hmap]
 have hs:srtM (fun x3 y4=>M99 F x3 y4) (((putT [] ts).map (·.1)).map (mbT g s))=some ((tyL ts).map (mbT g s)):=by
  refine srtM_name (nm:=q6c.Type_) (fun x y=>cltM_by (M99_by F x y)) ?_ ?_ ((q6n _).symm.map _) (by simp;omega)
  ·rw[List.map_map,show(q6c.Type_ ∘ mbT g s)=id from rfl,List.map_id]
   exact putT_nd ts [] (by simp)
  ·rw[List.pairwise_map];exact tyL_srt ts
 unfold M98
 rw[hs,Option.bind_some,if_pos (by simp;omega)]
theorem M29_L3_ok(F:Nat)(N:NetOk g fs n)(k:List q6c->Option (q8e×Bool×Int)):∀(l:List Tx) (o:List q6c),o.length+l.length<=100000->z1j F n s k l o=k (o++l.map (mbT g s))
 |[],o,_=>by simp[z1j]
 |x::l,o,h=>by
  simp only[List.length_cons] at h
  rw[z1j,M106_ok F N,Option.bind_some,if_pos (by simp;omega),M29_L3_ok F N k l _ (by simp;omega)]
  simp[mbT]
theorem M105_ok(F:Nat)(hF:10000<=F){ts:List Tx}(hl:(tyL ts).length<=500):M105 F (putT [] ts)=some (tyL ts):=by
 have hlen:=putT_len ts
 unfold M105
 rw[z4h,if_pos (.inr (by simp only[List.length_nil];omega)),M161_eq,List.nil_append,List.length_map,if_pos (okN_of 13 F _ (by omega) (by omega) (by omega))]
 rfl
theorem M107_L1_same(F:Nat)(a:List q6k)(k:Option Bool):∀(l:List q6k) (n:Nat),a.drop n=l->z4l F a k l n=k
 |[],n,_=>rfl
 |x::l,n,h=>by
  obtain⟨hn,h1,h2⟩:=q5v h
  rw[z4l,q1h hn,Option.bind_some,if_neg (by simp[h1])]
  exact M107_L1_same F a k l (n+1) h2
theorem M108_L1_same(F:Nat)(a:List q6c)(k:Option Bool):∀(l:List q6c) (n:Nat),a.drop n=l->z3l F a k l n=k
 |[],n,_=>rfl
 |x::l,n,h=>by
  obtain⟨hn,h1,h2⟩:=q5v h
  rw[z3l,q1h hn,Option.bind_some,if_neg (by simp[h1])]
  exact M108_L1_same F a k l (n+1) h2
theorem M30_same(F:Nat)(w:q8e):M30 F w w=some true:=by
 unfold M30 M107 M108
 simp only[q3e]
 rw[if_pos (by simp),if_neg (by simp),show(0:Int)=((0:Nat):Int) from rfl,M107_L1_same F w.Hops _ w.Hops 0 rfl,Option.bind_some,if_pos rfl,if_neg (by simp),M108_L1_same F w.Made _ w.Made 0 rfl,Option.bind_some]
theorem mkr_ok(R:q5g g)(X:z3b g how fs s){ty:Tx}(h:RN g how (onF fs) true ty):RN g how (onF fs) false (mkr g s ty)/\∃f,g.Funcs.find? (fun x=>x.Name==mkr g s ty)=some f/\f.Makes.contains ty=true:=by
 have hex:∃f,f∈g.Funcs/\((q8b s.reached f.Name).getD false&&f.Makes.contains ty)=true:=by
  cases h with
  |mk hf hx ht=>exact⟨_,hx,by rw[Bool.and_eq_true,X.r.get,X.hr];exact⟨hf,by simpa using ht⟩⟩
 obtain⟨f,hf,hfc⟩:=hex
 cases hq:g.Funcs.find? (fun f=>(q8b s.reached f.Name).getD false&&f.Makes.contains ty) with
 |none=>exact absurd hfc (List.find?_eq_none.1 hq f hf)
 |some f'=>
  have h1:=List.find?_some hq
  have h2:=List.mem_of_find?_eq_some hq
  rw[Bool.and_eq_true,X.r.get,X.hr] at h1
  have e:mkr g s ty=f'.Name:=by unfold mkr;rw[hq];rfl
  rw[e]
  exact⟨h1.1,f',q8o (f:=q5e.Name) R.fsrt h2,h1.2⟩
theorem rb_found(R:q5g g)(X:z3b g how fs s){rl:List Tx}(hrl:∀x,x∈rl<->RN g how (onF fs) false x):∀(l:List Tx) (p:Option Tx),(∀y,p=some y->∀x,x∈l->Op.bytesLess y x=true)->l.Pairwise (fun a b=>Op.bytesLess a b=true)->(∀y,y∈l->RN g how (onF fs) true y)->rbL rl g p (l.map (mbT g s))=true
 |[],p,_,_,_=>by simp[rbL]
 |x::l,p,hp,hs,hr=>by
  rw[List.pairwise_cons] at hs
  obtain⟨h1,f,h2,h3⟩:=mkr_ok R X (hr x (by simp))
  have h4:g.Funcs.find? (fun y=>y.Name==(mbT g s x).Func)=some f:=h2
  rw[List.map_cons,rbL,h4,Bool.and_eq_true,Bool.and_eq_true,Bool.and_eq_true]
  refine⟨?_,?_,h3,rb_found R X hrl l (some x) (fun y e z hz=>by simp only[Option.some.injEq] at e;subst e;exact hs.1 z hz) hs.2 (fun y hy=>hr y (List.mem_cons_of_mem _ hy))⟩
  ·cases p with
   |none=>rfl
   |some y=>exact hp y rfl x (by simp)
  ·rw[List.contains_iff_mem];exact(hrl _).2 h1
theorem hops_found(R:q5g g){T x:Tx}{hs:List q6k}{ts:List Tx}(H:z1b g how fs T x hs ts){M:List q6c}(hM:∀y,y∈ts->∃b,b∈M/\b.Type_=y):∀l:List Bool,l.length=M.length->
  ∃l',hopsW g how fs M hs x l=some (T,l')/\l'.length=M.length/\(∀i:Nat,l[i]? = some true->l'[i]? = some true)/\∀i:Nat,∀b,M[i]? = some b->b.Type_∈ts->l'[i]? = some true:=by
 induction H with
 |nil=>exact fun l hl=>⟨l,rfl,hl,fun _ h=>h,by simp⟩
 | @all f h hs ts c hf hc ha h1 r ih=>
  intro l hl
  have hfi:g.Funcs.find? (fun x=>x.Name==f.Name)=some f:=q8o (f:=q5e.Name) R.fsrt hf
  have hne:q6p g c h.To≠[]:=z6o.2 ha
  by_cases e1:how=1
  ·obtain⟨l',g1,g2,g3,g4⟩:=ih hM l hl
   exact⟨l',by rw[hopsW,stepW,hfi,Option.bind_some,hc,Option.bind_some,if_neg hne,if_pos e1,Option.bind_some];exact g1,g2,g3,g4⟩
  ·have kd:=h1.resolve_left e1
   have hany:((q6p g c h.To).any (fun a=>a.typ==([]:Tx))||M.any (mkP g c h.To))=true:=by
    rw[Bool.or_eq_true];left
    obtain⟨a,ha⟩:=List.exists_mem_of_ne_nil _ hne
    refine List.any_eq_true.2 ⟨a,ha,?_⟩
    have:=(q1r.1 ha).1
    unfold q5j at this
    rw[if_pos kd] at this
    simp only[List.mem_singleton] at this
    rw[this];rfl
   have ok:=markL_ok (mkI g c h.To M) l
   obtain⟨l',g1,g2,g3,g4⟩:=ih hM (markL (mkI g c h.To M) l) (ok.1.trans hl)
   refine⟨l',by rw[hopsW,stepW,hfi,Option.bind_some,hc,Option.bind_some,if_neg hne,if_neg e1,if_pos hany,Option.bind_some];exact g1,g2,fun i hi=>g3 i ?_,g4⟩
   obtain⟨hil,hie⟩:=List.getElem?_eq_some_iff.1 hi
   rw[ok.2 i hil,hie];rfl
 | @dis f h hs ts c a hf hc h2 kd ha hto hne hr r ih=>
  intro l hl
  have hfi:g.Funcs.find? (fun x=>x.Name==f.Name)=some f:=q8o (f:=q5e.Name) R.fsrt hf
  have hin:a∈q6p g c h.To:=q1r.2 ⟨ha,hto⟩
  have hne2:q6p g c h.To≠[]:=z6o.2 ⟨a,ha,hto⟩
  have hmk:∀b:q6c,b.Type_=a.typ->mkP g c h.To b=true:=fun b hb=>by
   unfold mkP
   refine List.any_eq_true.2 ⟨a,hin,?_⟩
   rw[Bool.and_eq_true,Bool.not_eq_true',beq_eq_false_iff_ne,beq_iff_eq]
   exact⟨hne,hb⟩
  have hany:((q6p g c h.To).any (fun a=>a.typ==([]:Tx))||M.any (mkP g c h.To))=true:=by
   rw[Bool.or_eq_true];right
   obtain⟨b,hb,hbt⟩:=hM a.typ (by simp)
   exact List.any_eq_true.2 ⟨b,hb,hmk b hbt⟩
  have ok:=markL_ok (mkI g c h.To M) l
  obtain⟨l',g1,g2,g3,g4⟩:=ih (fun y hy=>hM y (List.mem_cons_of_mem _ hy)) (markL (mkI g c h.To M) l) (ok.1.trans hl)
  refine⟨l',by rw[hopsW,stepW,hfi,Option.bind_some,hc,Option.bind_some,if_neg hne2,if_neg h2,if_pos hany,Option.bind_some];exact g1,g2,fun i hi=>g3 i ?_,fun i b hb hbt=>?_⟩
  ·obtain⟨hil,hie⟩:=List.getElem?_eq_some_iff.1 hi
   rw[ok.2 i hil,hie];rfl
  ·rcases List.mem_cons.1 hbt with e|e
   ·refine g3 i ?_
    have hil:i<l.length:=by rw[hl];exact(List.getElem?_eq_some_iff.1 hb).1
    have:mkI g c h.To M i=true:=by unfold mkI;rw[hb];exact hmk b e
    rw[ok.2 i hil,this,Bool.or_true]
   ·exact g4 i b hb e
theorem holds_found(R:q5g g)(hh:how=1\/how=2)(X:z3b g how fs s){rl:List Tx}(hrl:∀x,x∈rl<->RN g how (onF fs) false x){T x:Tx}{hs:List q6k}{ts:List Tx}(H:z1b g how fs T x hs ts)(hx:x∈g.Entries):
  holdB g how fs rl T (q8e.mk x hs ((tyL ts).map (mbT g s)))=true:=by
 unfold holdB
 rw[Bool.and_eq_true,Bool.and_eq_true,Bool.and_eq_true]
 have hrt:=H.types
 refine⟨by simpa using hx,rb_found R X hrl _ none (by simp) (tyL_srt ts) (fun y hy=>hrt y ((tyL_mem ts y).1 hy)),?_,?_⟩
 ·rcases hh with h|h
  ·have:tyL ts=[]:=by
    rw[H.one h]
    simp[tyL,putT,srtT]
   simp[this]
  ·simp[h]
 ·simp only
  obtain⟨l',g1,g2,g3,g4⟩:=hops_found R H (M:=(tyL ts).map (mbT g s)) (fun y hy=>⟨mbT g s y,List.mem_map_of_mem ((tyL_mem ts y).2 hy),rfl⟩) (List.replicate (((((tyL ts).map (mbT g s)).length:Nat):Int)).toNat false) (by simp)
  rw[g1]
  simp only[beq_self_eq_true,Bool.true_and]
  refine List.all_eq_true.2 fun b hb=>?_
  obtain⟨i,hi,rfl⟩:=List.getElem_of_mem hb
  have hi':i<((tyL ts).map (mbT g s)).length:=by rw[<-g2];exact hi
  have hi2:i<(tyL ts).length:=by simpa using hi'
  have:=g4 i _ (List.getElem?_eq_getElem hi') (by
   rw[List.getElem_map]
   exact(tyL_mem ts _).1 (List.getElem_mem hi2))
  rw[List.getElem?_eq_getElem hi] at this
  simpa using this
end
theorem M14_ok:M14 20003=some true:=by kernel_rfl
section
variable{g:q3c}{how:Int}{fs:List Tx}{s:q4a}{n:q2b}
theorem M90_eq(F:Nat)(hF:10000<=F)(hg:q2o g)(hfs:∀x,x∈fs->x.length<=maxLen)(t:Tx):
  M90 F g how fs t=some (if opnE g how fs≠0 then (none,0,opnE g how fs) else if q8s g t=true then (some (wOf g how fs),fI (wOf g how fs) t,0) else (none,0,4)):=by
 unfold M90
 rw[M78_eq F g how fs hg hfs (by omega),Option.bind_some]
 by_cases h0:opnE g how fs=0
 ·rw[h0]
  simp only[ne_eq,not_true_eq_false,if_false,bne_self_eq_false,Bool.false_eq_true,Option.bind_some]
  cases ht:q8s g t
  ·rw[z8c how fs ht];simp
  ·obtain⟨i,hi,he⟩:=q9q ht
   have:q8b (wOf g how fs).funcs t=some (i:Int):=by rw[<-he];exact fget_at (z5m h0).1 how fs hi
   unfold fI
   rw[this];simp
 ·have h0':(opnE g how fs != 0)=true:=by simpa using h0
  simp only[ne_eq,h0,not_false_eq_true,if_true,h0']
theorem ans_ex(R:q5g g)(X:z3b g how fs s):∃u,Ans g how fs (s.reached.map (·.1)) (s.made.map (·.1)) u:=by
 refine⟨(insAll [] ((g.Funcs.filter fun f=>(q8b s.reached f.Name).getD false).map q5e.Component)).map (·.1),X.r.srt,X.m.srt,(q1u.nil.insAll _).srt,X.hr,X.hm,fun c=>?_⟩
 rw[q1v]
 simp only[List.map_nil,List.not_mem_nil,or_false,List.mem_map,List.mem_filter]
 constructor
 ·rintro⟨x,⟨hx,hr⟩,rfl⟩
  exact⟨x,hx,(X.hr _).1 ((X.r.get _).1 hr),rfl⟩
 ·rintro⟨x,hx,hr,rfl⟩
  exact⟨x,⟨hx,(X.r.get _).2 ((X.hr _).2 hr)⟩,rfl⟩
theorem find_ok(F:Nat)(hF:20000<=F)(hg:q2o g)(hfs:∀x,x∈fs->x.length<=maxLen)(hl:fs.length<=maxLen)(T:Tx):
  ∃w b e,M28 F g how fs T=some (w,b,e)/\M29 F g how fs T=some (w,b,e)/\(b=true->M31 F g how fs T w=some (true,0)):=by
 have h28:M28 F g how fs T=(M90 F g how fs T).bind _:=rfl
 have h29:M29 F g how fs T=(M101 F g how fs [T]).bind _:=rfl
 rw[M90_eq F (by omega) hg hfs T,Option.bind_some] at h28
 rw[M101_one hg hfs hl T,Option.bind_some] at h29
 by_cases h0:opnE g how fs=0
 ·by_cases hT:q8s g T=true
  ·obtain⟨R,hh⟩:=z5m h0
   obtain⟨t,ht,rfl⟩:=q9q hT
   obtain⟨sp,s1,S⟩:=spread_ok (how:=how) (fs:=fs) F R hh (by omega)
   obtain⟨n,n1,N⟩:=M83_eq F g fs R
   obtain⟨s,x1,X⟩:=M102_eq (how:=how) R N F (by omega)
   have hft:fI (wOf g how fs) (g.Funcs[t]).Name=(t:Int):=q4s R how fs ht
   have htl:t<sp.funcs.length:=by rw[S.fl];exact ht
   have hreach:(q8b s.reached (g.Funcs[t]).Name).getD false=sp.funcs[t]:=by
    rw[Bool.eq_iff_iff,X.r.get,X.hr]
    have:=S.f t ht
    unfold tru at this
    rw[List.getElem?_eq_getElem htl,Option.some.injEq] at this
    exact this.symm
   simp only[ne_eq,h0,not_true_eq_false,if_false,hT,if_true,bne_self_eq_false,Bool.false_eq_true,Option.bind_some,hft] at h28
   simp only[ne_eq,h0,not_true_eq_false,if_false,hT,if_true,bne_self_eq_false,Bool.false_eq_true] at h29
   rw[s1,Option.bind_some,Option.bind_some,q1h htl,Option.bind_some] at h28
   rw[n1,Option.bind_some,x1,Option.bind_some,hreach] at h29
   cases hb:sp.funcs[t] with
   |false=>
    rw[hb,if_pos (by simp)] at h28 h29
    exact⟨_,_,_,h28,h29,by simp⟩
   |true=>
    rw[hb,if_neg (by simp)] at h28 h29
    obtain⟨d,d1,W⟩:=M94_ok F (by omega) R hh S ht
    obtain⟨m,m1,A⟩:=M103_ok F (by omega) R N X hT
    have Y:Wys g how fs t d m:=⟨R,ht,W,A⟩
    rw[d1,Option.bind_some] at h28
    rw[m1,Option.bind_some] at h29
    simp only[q3e] at h28 h29
    obtain⟨n',x',b1,b2,B,b4,b5⟩:=best_ok F Y (fun n20=>(idx g.Funcs n20).bind fun x42=>z3j F (some (wOf g how fs),(t:Int),0) (wOf g how fs) sp d (fun m45 l46=>q7v F x42 l46 m45 ([]:List q6c)) F n20 ([]:List (Tx×Tx)) ([]:List q6k))
     (fun s16=>z2j F how (g.Funcs[t]).Name n s m (fun m33 l34=>(M105 F m33).bind fun y49=>z1j F n s (fun l52=>some ((q8e.mk s16 l34 l52),true,0)) y49 ([]:List q6c)) F s16 ([]:List (Tx×Bool)) ([]:List q6k)) g.Entries (-1) [] R.e (.inl ⟨rfl,rfl⟩)
    rw[b1] at h28
    rw[b2] at h29
    have hrT:RN g how (onF fs) false (g.Funcs[t]).Name:=(S.f t ht).1 (by unfold tru;rw[List.getElem?_eq_getElem htl,hb])
    obtain⟨e,he,k,w⟩:=reach_way hrT rfl ⟨0,.z⟩
    obtain⟨q0,_,dq0⟩:=w.least
    have hne:=b4 (.inr ⟨e,he,q0,dq0⟩)
    rcases B with ⟨_,rfl⟩|⟨i,hi,q,rfl,rfl,dq⟩
    ·exact absurd rfl hne
    ·have hin:(g.Funcs[i]).Name∈g.Entries:=b5.resolve_left hne
     have hq:=(Y.num hi dq).2
     rw[q1h hi,Option.bind_some] at h28
     obtain⟨hs,ts,a1,a2,H⟩:=way_ok F (by omega) hh S N X Y (some (wOf g how fs),(t:Int),0) rfl (fun m45 l46=>q7v F g.Funcs[i] l46 m45 ([]:List q6c))
      (fun m33 l34=>(M105 F m33).bind fun y49=>z1j F n s (fun l52=>some ((q8e.mk (g.Funcs[i]).Name l34 l52),true,0)) y49 ([]:List q6c)) q F i hi [] [] dq (by omega) (by simp;omega)
     have hty:(tyL ts).length<=500:=tyL_len R H.types
     rw[show([]:List (Tx×Tx))=([]:List (Tx×Bool)).map (mkE g s) from rfl,a1,List.nil_append,M28_L3_ok F g.Funcs[i] hs hty] at h28
     rw[a2,List.nil_append,M105_ok F (by omega) hty,Option.bind_some,M29_L3_ok F N _ _ _ (by simp;omega),List.nil_append] at h29
     refine⟨_,_,_,h28,h29,fun _=>?_⟩
     obtain⟨u,AA⟩:=ans_ex R X
     rw[M31_eq (by omega) hg hfs (fun _=>AA) _ _ (by simp;unfold maxLen;omega),h0,if_neg (by simp),if_pos hT,holds_found R hh X X.hr H hin]
  ·simp only[ne_eq,h0,not_true_eq_false,if_false,Bool.eq_false_iff.2 hT,Bool.false_eq_true] at h28 h29
   exact⟨_,_,_,h28,h29,by simp⟩
 ·have h0':(opnE g how fs != 0)=true:=by simpa using h0
  simp only[ne_eq,h0,not_false_eq_true,if_true,h0'] at h28 h29
  exact⟨_,_,_,h28,h29,by simp⟩
theorem plain_8(g:q3c)(how:Int)(fs:List Tx)(t:Tx)(hg:q2o g)(hi:(IntKind.i64).min<=how/\how<=(IntKind.i64).max)(hfs:(∀a,a∈fs->(fun x:B8=>x.length<=maxLen) a)/\fs.length<=maxLen)(ht:t.length<=maxLen):∃F,M8 F g how fs t=some true:=by
 refine⟨20003,?_⟩
 have h14:=M14_ok
 revert h14
 generalize hF:20003=F
 intro h14
 obtain⟨w,b,e,h1,h2,h3⟩:=find_ok (how:=how) F (by omega) hg hfs.1 hfs.2 t
 unfold M8
 rw[h1,h2,Option.bind_some,Option.bind_some]
 simp only[bne_self_eq_false,Bool.false_eq_true,if_false,q3e]
 rw[M30_same,Option.bind_some]
 simp only[Bool.not_true,Bool.false_eq_true,if_false]
 have fin:((M14 F).bind fun y20=>some y20)=some true:=by rw[h14];rfl
 cases b with
 |false=>rw[if_neg (by simp)];exact fin
 |true=>
  rw[if_pos rfl,h3 rfl,Option.bind_some]
  simp only[Bool.not_true,Bool.false_eq_true,if_false,bne_self_eq_false]
  exact fin
end
end Go.Proofs.YtpbkggamiipdmaaGreat
/-
 DERIVED: THE SHELF's CONTRACTS AT THIS DUMP, IN PLAIN WORDS (tools/lay-plain.mjs out of 'TryzShelf.lean', which tools/lay-shelf.mjs wrote): THE SAME DECLARATIONS UNDER THE SAME NAMES: 'import', 'namespace', 'open', 'def', 'theorem' AND NOTHING ELSE: no command of the shelf's: FOR A HAND-IN. Each laying: the table of numbers ('.._ren') and one theorem, a field a fact of the dump's own or the kernel's comparison; each contract: ONE APPLICATION.
-/
namespace Go.Proofs
open Go.Shelf
def Tryz.lays189_ren:Go.Shelf.Ren:=⟨fun|189=>152|125=>135|257=>195|128=>185|129=>186|294=>247|295=>248|296=>249|297=>250|298=>251|299=>252|216=>253|300=>254|301=>255|328=>272|329=>234|330=>235|331=>273|332=>274|215=>170|343=>280|n=>n,fun|28=>165|3=>3|46=>244|0=>0|51=>295|53=>297|4=>4|183=>289|182=>288|131=>86|5=>5|9=>9|218=>332|222=>336|228=>358|229=>359|n=>n,fun|n=>n⟩
theorem Tryz.lays189:Go.Proofs.Lays.n189 Tryz.prog Tryz.lays189_ren:={
 mixed:=by kernel_rfl
 f125:=Tryz.func135.trans (congrArg some (by kernel_rfl))
 f128:=Tryz.func185.trans (congrArg some (by kernel_rfl))
 f129:=Tryz.func186.trans (congrArg some (by kernel_rfl))
 f189:=Tryz.func152.trans (congrArg some (by kernel_rfl))
 f215:=Tryz.func170.trans (congrArg some (by kernel_rfl))
 f216:=Tryz.func253.trans (congrArg some (by kernel_rfl))
 f257:=Tryz.func195.trans (congrArg some (by kernel_rfl))
 f294:=Tryz.func247.trans (congrArg some (by kernel_rfl))
 f295:=Tryz.func248.trans (congrArg some (by kernel_rfl))
 f296:=Tryz.func249.trans (congrArg some (by kernel_rfl))
 f297:=Tryz.func250.trans (congrArg some (by kernel_rfl))
 f298:=Tryz.func251.trans (congrArg some (by kernel_rfl))
 f299:=Tryz.func252.trans (congrArg some (by kernel_rfl))
 f300:=Tryz.func254.trans (congrArg some (by kernel_rfl))
 f301:=Tryz.func255.trans (congrArg some (by kernel_rfl))
 f328:=Tryz.func272.trans (congrArg some (by kernel_rfl))
 f329:=Tryz.func234.trans (congrArg some (by kernel_rfl))
 f330:=Tryz.func235.trans (congrArg some (by kernel_rfl))
 f331:=Tryz.func273.trans (congrArg some (by kernel_rfl))
 f332:=Tryz.func274.trans (congrArg some (by kernel_rfl))
 f343:=Tryz.func280.trans (congrArg some (by kernel_rfl))
 t0:=Tryz.underlying0
 a0:=Tryz.isAgg0
 z0:=Tryz.sizeOf0
 v0:=Tryz.zeroValue0
 t3:=Tryz.underlying3
 a3:=Tryz.isAgg3
 z3:=Tryz.sizeOf3
 v3:=Tryz.zeroValue3
 t4:=Tryz.underlying4
 a4:=Tryz.isAgg4
 z4:=Tryz.sizeOf4
 v4:=Tryz.zeroValue4
 t5:=Tryz.underlying5
 a5:=Tryz.isAgg5
 z5:=Tryz.sizeOf5
 v5:=Tryz.zeroValue5
 t9:=Tryz.underlying9
 a9:=Tryz.isAgg9
 z9:=Tryz.sizeOf9
 v9:=Tryz.zeroValue9
 t28:=Tryz.underlying165
 a28:=Tryz.isAgg165
 z28:=Tryz.sizeOf165
 v28:=Tryz.zeroValue165
 t46:=Tryz.underlying244
 a46:=Tryz.isAgg244
 z46:=Tryz.sizeOf244
 v46:=Tryz.zeroValue244
 t51:=Tryz.underlying295
 a51:=Tryz.isAgg295
 z51:=Tryz.sizeOf295
 v51:=Tryz.zeroValue295
 t53:=Tryz.underlying297
 a53:=Tryz.isAgg297
 z53:=Tryz.sizeOf297
 v53:=Tryz.zeroValue297
 t131:=Tryz.underlying86
 a131:=Tryz.isAgg86
 z131:=Tryz.sizeOf86
 v131:=Tryz.zeroValue86
 t182:=Tryz.underlying288
 a182:=Tryz.isAgg288
 z182:=Tryz.sizeOf288
 v182:=Tryz.zeroValue288
 t183:=Tryz.underlying289
 a183:=Tryz.isAgg289
 z183:=Tryz.sizeOf289
 v183:=Tryz.zeroValue289
 t218:=Tryz.underlying332
 a218:=Tryz.isAgg332
 z218:=Tryz.sizeOf332
 v218:=Tryz.zeroValue332
 t222:=Tryz.underlying336
 a222:=Tryz.isAgg336
 z222:=Tryz.sizeOf336
 v222:=Tryz.zeroValue336
 t228:=Tryz.underlying358
 a228:=Tryz.isAgg358
 z228:=Tryz.sizeOf358
 v228:=Tryz.zeroValue358
 t229:=Tryz.underlying359
 a229:=Tryz.isAgg359
 z229:=Tryz.sizeOf359
 v229:=Tryz.zeroValue359 }
open Go.Sort Go.RowKit in
theorem Tryz.slices_Sort_int(blk off cap:Nat)(zs:List Int)(w:World)(hH:Holds (Value.int .i64) w blk off zs.toArray)(hblk:blk<w.heap.size)(hsz:zs.length<4611686018427387904):
  Calls Tryz.prog 152 #[.slice (some ⟨blk,off,none⟩) zs.length cap] w fun e w'=>
   e=.returned (.tuple #[])/\∃n os,w'=grow (putRow (Value.int .i64) (Sort.ahead w n) blk off (zs.mergeSort fun x y=>decide (x<=y)).toArray) os:=Any.slices_Sort_int Tryz.lays189 blk off cap zs w hH hblk hsz
def Tryz.laysNm220_ren:Go.Shelf.Ren:=⟨fun|20=>153|n=>n,fun|22=>165|3=>3|4=>4|0=>0|n=>n,fun|n=>n⟩
theorem Tryz.laysNm220:Go.Proofs.Lays2.n20 Tryz.prog Tryz.laysNm220_ren:={
 mixed:=by kernel_rfl
 f20:=Tryz.func153.trans (congrArg some (by kernel_rfl))
 t0:=Tryz.underlying0
 a0:=Tryz.isAgg0
 z0:=Tryz.sizeOf0
 v0:=Tryz.zeroValue0
 t3:=Tryz.underlying3
 a3:=Tryz.isAgg3
 z3:=Tryz.sizeOf3
 v3:=Tryz.zeroValue3
 t4:=Tryz.underlying4
 a4:=Tryz.isAgg4
 z4:=Tryz.sizeOf4
 v4:=Tryz.zeroValue4
 t22:=Tryz.underlying165
 a22:=Tryz.isAgg165
 z22:=Tryz.sizeOf165
 v22:=Tryz.zeroValue165
 i3:=by kernel_rfl }
open Go.RowKit Go.Lib Go.Sort in
theorem Tryz.slices_Compact_int(blk off cap:Nat)(zs:List Int)(w:World)(hH:Holds (Value.int .i64) w blk off zs.toArray)(hsz:zs.length<=9223372036854775807)(hcap:zs.length<=cap):
  Calls Tryz.prog 153 #[.slice (some ⟨blk,off,none⟩) zs.length cap] w fun e w'=>e=.returned (.slice (some ⟨blk,off,none⟩) (Lib.compact zs).length cap)/\∃q,w'=putRow (Value.int .i64) (Sort.ahead w q) blk off (Lib.compact zs++List.replicate (zs.length - (Lib.compact zs).length) 0).toArray:=Any.slices_Compact_int Tryz.laysNm220 blk off cap zs w hH hsz hcap
open Go.RowKit Go.Lib Go.Sort in
theorem Tryz.slices_Compact_int_empty(a:Option Addr)(cap:Nat)(w:World):
  Calls Tryz.prog 153 #[.slice a 0 cap] w fun e w'=>e=.returned (.slice a 0 cap)/\w'=w:=Any.slices_Compact_int_empty Tryz.laysNm220 a cap w
open Go.RowKit Go.Sort in
theorem Tryz.slices_Sort_int_none(p:Option Addr)(cap:Nat)(w:World):
  Calls Tryz.prog 152 #[.slice p 0 cap] w fun e w'=>e=.returned (.tuple #[])/\w'=w:=Any.slices_Sort_int_none Tryz.lays189 p cap w
def Tryz.laysSlF06_f98_ren:Go.Shelf.Ren:=⟨fun|6=>98|15=>135|14=>157|28=>185|29=>186|20=>196|21=>197|22=>198|23=>199|24=>200|25=>201|26=>202|27=>203|46=>256|47=>234|48=>235|49=>257|50=>258|57=>275|n=>n,fun|22=>59|24=>76|25=>190|3=>3|39=>244|0=>0|53=>295|55=>297|4=>4|46=>289|45=>288|50=>86|5=>5|9=>9|66=>332|70=>336|76=>358|77=>359|n=>n,fun|n=>n⟩
theorem Tryz.laysSlF06_f98:Go.Proofs.SlLaysF0.n6 Tryz.prog Tryz.laysSlF06_f98_ren:={
 mixed:=by kernel_rfl
 f6:=⟨Tryz.f98.name,by decide,Tryz.func98.trans (congrArg some (by kernel_rfl))⟩
 f14:=⟨Tryz.f157.name,by decide,Tryz.func157.trans (congrArg some (by kernel_rfl))⟩
 f15:=Tryz.func135.trans (congrArg some (by kernel_rfl))
 f20:=⟨Tryz.f196.name,by decide,Tryz.func196.trans (congrArg some (by kernel_rfl))⟩
 f21:=⟨Tryz.f197.name,by decide,Tryz.func197.trans (congrArg some (by kernel_rfl))⟩
 f22:=⟨Tryz.f198.name,by decide,Tryz.func198.trans (congrArg some (by kernel_rfl))⟩
 f23:=⟨Tryz.f199.name,by decide,Tryz.func199.trans (congrArg some (by kernel_rfl))⟩
 f24:=⟨Tryz.f200.name,by decide,Tryz.func200.trans (congrArg some (by kernel_rfl))⟩
 f25:=⟨Tryz.f201.name,by decide,Tryz.func201.trans (congrArg some (by kernel_rfl))⟩
 f26:=⟨Tryz.f202.name,by decide,Tryz.func202.trans (congrArg some (by kernel_rfl))⟩
 f27:=⟨Tryz.f203.name,by decide,Tryz.func203.trans (congrArg some (by kernel_rfl))⟩
 f28:=Tryz.func185.trans (congrArg some (by kernel_rfl))
 f29:=Tryz.func186.trans (congrArg some (by kernel_rfl))
 f46:=⟨Tryz.f256.name,by decide,Tryz.func256.trans (congrArg some (by kernel_rfl))⟩
 f47:=Tryz.func234.trans (congrArg some (by kernel_rfl))
 f48:=Tryz.func235.trans (congrArg some (by kernel_rfl))
 f49:=⟨Tryz.f257.name,by decide,Tryz.func257.trans (congrArg some (by kernel_rfl))⟩
 f50:=⟨Tryz.f258.name,by decide,Tryz.func258.trans (congrArg some (by kernel_rfl))⟩
 f57:=⟨Tryz.f275.name,by decide,Tryz.func275.trans (congrArg some (by kernel_rfl))⟩
 t0:=Tryz.underlying0
 a0:=Tryz.isAgg0
 z0:=Tryz.sizeOf0
 v0:=Tryz.zeroValue0
 t3:=Tryz.underlying3
 a3:=Tryz.isAgg3
 z3:=Tryz.sizeOf3
 v3:=Tryz.zeroValue3
 t4:=Tryz.underlying4
 a4:=Tryz.isAgg4
 z4:=Tryz.sizeOf4
 v4:=Tryz.zeroValue4
 t5:=Tryz.underlying5
 a5:=Tryz.isAgg5
 z5:=Tryz.sizeOf5
 v5:=Tryz.zeroValue5
 t9:=Tryz.underlying9
 a9:=Tryz.isAgg9
 z9:=Tryz.sizeOf9
 v9:=Tryz.zeroValue9
 t22:=Tryz.underlying59
 a22:=Tryz.isAgg59
 z22:=Tryz.sizeOf59
 v22:=Tryz.zeroValue59
 t25:=Tryz.underlying190
 a25:=Tryz.isAgg190
 z25:=Tryz.sizeOf190
 v25:=Tryz.zeroValue190
 t39:=Tryz.underlying244
 a39:=Tryz.isAgg244
 z39:=Tryz.sizeOf244
 v39:=Tryz.zeroValue244
 t45:=Tryz.underlying288
 a45:=Tryz.isAgg288
 z45:=Tryz.sizeOf288
 v45:=Tryz.zeroValue288
 t46:=Tryz.underlying289
 a46:=Tryz.isAgg289
 z46:=Tryz.sizeOf289
 v46:=Tryz.zeroValue289
 t50:=Tryz.underlying86
 a50:=Tryz.isAgg86
 z50:=Tryz.sizeOf86
 v50:=Tryz.zeroValue86
 t53:=Tryz.underlying295
 a53:=Tryz.isAgg295
 z53:=Tryz.sizeOf295
 v53:=Tryz.zeroValue295
 t55:=Tryz.underlying297
 a55:=Tryz.isAgg297
 z55:=Tryz.sizeOf297
 v55:=Tryz.zeroValue297
 t66:=Tryz.underlying332
 a66:=Tryz.isAgg332
 z66:=Tryz.sizeOf332
 v66:=Tryz.zeroValue332
 t70:=Tryz.underlying336
 a70:=Tryz.isAgg336
 z70:=Tryz.sizeOf336
 v70:=Tryz.zeroValue336
 t76:=Tryz.underlying358
 a76:=Tryz.isAgg358
 z76:=Tryz.sizeOf358
 v76:=Tryz.zeroValue358
 t77:=Tryz.underlying359
 a77:=Tryz.isAgg359
 z77:=Tryz.sizeOf359
 v77:=Tryz.zeroValue359 }
open Go.RowKit Go.Lib Go.Sort in
theorem Tryz.slices_SortFunc_f98{α:Type}[Inhabited α](k:Nat)(aE:∀w,(isAgg (Tryz.laysSlF06_f98_ren.t 24)).run Tryz.prog w=.ok true w)(zE:∀w,(Go.sizeOf (Tryz.laysSlF06_f98_ren.t 24)).run Tryz.prog w=.ok k w)(enc:α->List Value)(hk:∀x,(enc x).length=k)(h1:∀x,∀v∈enc x,v.oneCell'=true)(cf:α->α->Int)(hO:SWO (ltOf cf))(g:Nat)(cb:Array Value)(blk off cap:Nat)(d:Array α)(w:World)(eg:∀args w,(callFunc g args).run Tryz.prog w=.ok (.enter g args) w)(hcmp:CmpLays Tryz.prog g cb enc k cf blk off d.size w)(hH:HoldsK enc k w blk off d)(hblk:blk<w.heap.size)(hsz:d.size<4611686018427387904):
  Calls Tryz.prog 98 #[.slice (some ⟨blk,off,none⟩) d.size cap,.func (.func g) #[] cb] w fun e w'=>
   e=.returned (.tuple #[])/\∃d' n os,PermIn 0 d.size d d'/\SortedIn (ltOf cf) 0 d.size d'/\w'=sortWorldK enc k w blk off n d' os:=AnyQ.slices_SortFunc Tryz.laysSlF06_f98 k aE zE enc hk h1 cf hO g cb blk off cap d w eg hcmp hH hblk hsz
open Go.RowKit Go.Lib Go.Sort in
theorem Tryz.slices_SortFunc_none_f98{α:Type}[Inhabited α](p:Option Addr)(cap:Nat)(fv:Value)(w:World):
  Calls Tryz.prog 98 #[.slice p 0 cap,fv] w fun e w'=>e=.returned (.tuple #[])/\w'=w:=AnyF.slices_SortFunc_none Tryz.laysSlF06_f98 p cap fv w
end Go.Proofs
