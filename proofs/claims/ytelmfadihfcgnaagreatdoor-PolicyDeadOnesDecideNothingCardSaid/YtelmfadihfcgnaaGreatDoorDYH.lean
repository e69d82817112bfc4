/- Part of the proof: DD, DZ, DX5, DY, YF, YG, YJ, YH. -/
import Derived.Test.YtelmfadihfcgnaaGreatDoorDDN
import Derived.Test.YtelmfadihfcgnaaGreatDoorDDK
import Derived.Test.YtelmfadihfcgnaaGreatDoorDWA
import Derived.Test.YtelmfadihfcgnaaGreatDoorDZA
import Derived.Laws.Runes
import Derived.Laws.Pointers
import Derived.Test.YtelmfadihfcgnaaGreatDoorDPvW
import Derived.RangeFuncSeq
import Derived.RangeFuncIn
import Derived.Test.YtelmfadihfcgnaaGreatDoorDPvJ
import Derived.Test.YtelmfadihfcgnaaGreatDoorDPvR
namespace Go.Pv
open Go
set_option linter.unusedVariables false
inductive Dels(x:Value):List (Value×V)->List (Value×V)->Prop
 |nil:Dels x [] []
 |here {v:V} {es:List (Value×V)}:Dels x ((x,v)::es) es
 |there {k:Value} {v:V} {es es':List (Value×V)} (h:k≠x) (h':Dels x es es'):Dels x ((k,v)::es) ((k,v)::es')
theorem Dels.none_of{x:Value}{es es':List (Value×V)}(h:Dels x es es')(hn:∀p,p∈es->p.1≠x):es'=es:=by
 induction h with
 |nil=>rfl
 |here=>exact absurd rfl (hn _ List.mem_cons_self)
 |there _ _ ih=>rw[ih fun p hp=>hn p (by simp[hp])]
theorem Dels.some_of{x:Value}{es es':List (Value×V)}(h:Dels x es es'):∀(j:Nat) (v':V),es[j]? = some (x,v')->(∀i p,i<j->es[i]? = some p->p.1≠x)->es'=es.eraseIdx j:=by
 induction h with
 |nil=>intro j v h;simp at h
 |here=>
  intro j v' hj hi
  cases j with
  |zero=>rfl
  |succ j=>exact absurd rfl (hi 0 _ (by omega) rfl)
 |there h _ ih=>
  intro j v' hj hi
  cases j with
  |zero=>simp at hj;exact absurd hj.1 h
  |succ j=>
   rw[ih j v' (by simpa using hj) fun i p hij hp=>hi (i+1) p (by omega) (by simpa using hp),List.eraseIdx_cons_succ]
def mdel{α β:Type}[DecidableEq α]:List (α×β)->α->List (α×β)
 |[],_=>[]
 |p::r,k=>if p.1=k then r else p::mdel r k
theorem dels_map{α β:Type}[DecidableEq α]{kv:α->Value}{ev:β->V}(hinj:∀a b,kv a=kv b->a=b)(xs:List (α×β))(k:α):Dels (kv k) (xs.map fun p=>(kv p.1,ev p.2)) ((mdel xs k).map fun p=>(kv p.1,ev p.2)):=by
 induction xs with
 |nil=>exact .nil
 |cons p xs ih=>
  rw[mdel]
  by_cases h:p.1=k
  ·rw[if_pos h,List.map_cons,h];exact .here
  ·rw[if_neg h,List.map_cons,List.map_cons]
   exact .there (fun e=>h (hinj _ _ e)) ih
theorem erase_perm{α:Type}{e:α}{l L:List α}{j k:Nat}(h:l.Perm L)(h1:l[j]? = some e)(h2:L[k]? = some e):(l.eraseIdx j).Perm (L.eraseIdx k):=
 ((cons_erase e l j h1).symm.trans (h.trans (cons_erase e L k h2))).cons_inv
theorem MWf.erase{E:Array MapEntry}{clock j:Nat}(q:MWf E clock):MWf (E.eraseIdxIfInBounds j) clock:=by
 have e:(E.eraseIdxIfInBounds j).toList=E.toList.eraseIdx j:=by simp
 refine⟨?_,fun x hx=>?_,?_⟩
 ·rw[e];exact((List.eraseIdx_sublist ..).map _).nodup q.born
 ·rw[e] at hx;exact q.lt x ((List.eraseIdx_sublist ..).mem hx)
 ·rw[e];exact((List.eraseIdx_sublist ..).map _).nodup q.key
section
variable{K:Ctx}{Q:Post}{S:St}
variable{ops:Array Oper}{rest:List Oper}{ty:TypeId}{pos:String}{after:Array Edge}{g:Option (Nat×Bool)}
theorem aops_mapDelete{T k e Tk:TypeId}{x y:Operand}{good:Value->Prop}{kv:Value}{id:Nat}{es:List (Value×V)}(es':List (Value×V))(hT:tyMap K.P T k e=true)(hK:KeyT K.P k good)
  (hw:Wants ops S ⟨none,.call ⟨.builtin .delete,#[x,y],#[T,Tk]⟩,ty,pos,after,g⟩ true) (hx:evl K S x=.map id) (ho:hget S.hp id=.map es) (hy:KeyIs K S y kv) (hg:good kv) (hges:∀p,p∈es->good p.1)
  (hp:Dels kv es es') (kk:AOps K ops rest Q ⟨S.env,(id,.map es')::S.hp,S.nx⟩):AOps K ops (⟨none,.call ⟨.builtin .delete,#[x,y],#[T,Tk]⟩,ty,pos,after,g⟩::rest) Q S:=by
 refine aops_runs hw (fun m β w a r=>?_) kk
 have h:=r.reads x
 rw[hx] at h
 generalize hv:a.eval x=v at h
 cases h with
 |imm h=>cases h
 | @map _ b cap hb=>
 have h0:=r.own id
 rw[hb,ho] at h0
 obtain⟨ents,clock,bl,⟨E,e2,eP,eW⟩,e3,eB,e4⟩:=h0
 have hobj:(getObj b).run K.P w=.ok (.map E clock) w:=by simp[getObj,Sem.run,e2]
 have hset:∀o,(setObj b o).run K.P w=.ok () { w with heap:=w.heap.setIfInBounds b o }:=by intro o;simp[setObj,Sem.run,e2]
 have hbl:=lt_of_some e2
 have heap':∀o b',b'≠b->({ w with heap:=w.heap.setIfInBounds b o }:World).heap[b']? = w.heap[b']?:=by
  intro o b' hne;simp only[Array.getElem?_setIfInBounds];rw[if_neg (Ne.symm hne)]
 have self':∀o,({ w with heap:=w.heap.setIfInBounds b o }:World).heap[b]? = some o:=by
  intro o;simp[hbl]
 rcases found hK hg e3 (fun i p e a b=>(e4 i p e a b).1) hges eP eW (w:=w) with ⟨a1,a2,aK⟩|⟨j,p,en,jE,a1,a2,a3,a4,a5,aE⟩
 ·have hes:=hp.none_of a2
  refine⟨.tuple #[],{ w with heap:=w.heap.setIfInBounds b (.map E clock) },m,β,.inl ?_,
   r.update (by rw[ho];simp) hb _ (.map es') (heap' _) (by simp) ⟨rfl,rfl,rfl,trivial⟩ (fun hkeep=>⟨ents,_,bl,⟨_,self' _,eP,eW⟩,by rw[hes];exact e3,eB,fun i p e hi he=>?_⟩)⟩
  ·refine run_builtin rfl ?_
   have hd:(Builtin.delete_ #[T,Tk] ty #[a.eval x,a.eval y]).run K.P w=.ok (.tuple #[]) { w with heap:=w.heap.setIfInBounds b (.map E clock) }:=by
    rw[hv,hy.read r]
    simp only[Builtin.delete_,List.getElem?_toArray,List.getElem?_cons_zero,List.getElem?_cons_succ,Sem.run_bind,run_underlying (tyMap_inv hT),Result.andThen_ok,hobj,hK.check _ w kv hg,a1,hset]
    rfl
   simp only[builtin,List.map_toArray,List.map_cons,List.map_nil,Sem.run_bind]
   rw[hd]
   rfl
  ·rw[hes] at hi
   exact⟨(e4 i p e hi he).1,(e4 i p e hi he).2.mono (Mem.le_refl _) (Locs.le_refl _) (fun _ h=>h) (fun x hx=>hkeep x (eB.1 _ x hx))⟩
 ·have hpp:p=(kv,p.2):=by rw[<-a4]
  rw[hpp] at a3
  have hes:=hp.some_of j p.2 a3 a5
  have ej:(ents.eraseIdxIfInBounds j).toList=ents.toList.eraseIdx j:=by simp
  have eE:(E.eraseIdxIfInBounds jE).toList=E.toList.eraseIdx jE:=by simp
  refine⟨.tuple #[],{ w with heap:=w.heap.setIfInBounds b (.map (E.eraseIdxIfInBounds jE) clock) },m,β,.inl ?_,
   r.update (by rw[ho];simp) hb _ (.map es') (heap' _) (by simp) ⟨rfl,rfl,rfl,trivial⟩ (fun hkeep=>⟨ents.eraseIdxIfInBounds j,_,fun q=>bl (if q<j then q else q+1),⟨_,self' _,by rw[ej,eE];exact erase_perm eP (by simpa using a2) (by simpa using aE),eW.erase⟩,?_,⟨fun q y hy=>eB.1 _ y hy,fun q q' y h1 h2=>?_⟩,fun i p e hi he=>?_⟩)⟩
  ·refine run_builtin rfl ?_
   have hd:(Builtin.delete_ #[T,Tk] ty #[a.eval x,a.eval y]).run K.P w=.ok (.tuple #[]) { w with heap:=w.heap.setIfInBounds b (.map (E.eraseIdxIfInBounds jE) clock) }:=by
    rw[hv,hy.read r]
    simp only[Builtin.delete_,List.getElem?_toArray,List.getElem?_cons_zero,List.getElem?_cons_succ,Sem.run_bind,run_underlying (tyMap_inv hT),Result.andThen_ok,hobj,hK.check _ w kv hg,a1,hset]
    rfl
   simp only[builtin,List.map_toArray,List.map_cons,List.map_nil,Sem.run_bind]
   rw[hd]
   rfl
  ·have hj:j<ents.size:=(Array.getElem?_eq_some_iff.1 a2).1
   have h1:(ents.eraseIdxIfInBounds j).size=ents.size - 1:=by rw[<-Array.length_toList,ej,List.length_eraseIdx];simp[hj]
   rw[hes,List.length_eraseIdx,if_pos (by rw[e3];exact hj),h1,e3]
  ·have:=eB.2 _ _ y h1 h2
   split at this<;>split at this<;>omega
  ·rw[hes,List.getElem?_eraseIdx] at hi
   have h2:(ents.eraseIdxIfInBounds j).toList[i]? = some e:=by rw[Array.getElem?_toList];exact he
   rw[ej,List.getElem?_eraseIdx] at h2
   have he':ents[if i<j then i else i+1]? = some e:=by
    by_cases hij:i<j
    ·rw[if_pos hij] at h2;simp only[if_pos hij];simpa using h2
    ·rw[if_neg hij] at h2;simp only[if_neg hij];simpa using h2
   have hi':es[if i<j then i else i+1]? = some p:=by
    by_cases hij:i<j
    ·rw[if_pos hij] at hi;simp only[if_pos hij];exact hi
    ·rw[if_neg hij] at hi;simp only[if_neg hij];exact hi
   exact⟨(e4 _ p e hi' he').1,(e4 _ p e hi' he').2.mono (Mem.le_refl _) (Locs.le_refl _) (fun _ h=>h) (fun x hx=>hkeep x (eB.1 _ x hx))⟩
end
set_option linter.unusedSimpArgs false
section
variable{K:Ctx}{S:St}
variable{m:Mem}{β:Locs}{w:World}{a:Act}
theorem dpt_take{B:Nat->Prop}{e:Nat}{row:List V}{v:Value}{id0:Nat}(h:DRel m w B (.dpt e row) v):
  ∃(loc:Option (Nat×Cap)) (Bn:Nat->Prop),(∀β':Locs,β' id0=some loc->VRel m β' (.ptr id0 row.length 0 0) v)/\(∀x,Bn x->B x)/\(∀b' c',loc=some (b',c')->B b'/\¬Bn b')/\∀β':Locs,ObOk m β' w Bn (some loc) (.arr e row.length [row]):=by
 cases h with
 |imm h=>cases h
 | @pt _ b n off _ _ arr bl f hb hbb hB hw hs hn hcap hf h=>
  refine⟨some (b,⟨n,off⟩),fun x=>∃p,bl p x,fun β' h=>?_,fun x ⟨p,hx⟩=>hB.1 p x hx,fun b2 c2 h=>?_,fun β'=>?_⟩
  ·have:=VRel.ptr (m:=m) (k:=row.length) (i:=0) (off:=0) h
   simpa using this
  ·simp only[Option.some.injEq,Prod.mk.injEq] at h;obtain⟨rfl,_⟩:=h;exact⟨hb,fun⟨p,hx⟩=>hbb p hx⟩
  ·refine⟨arr,bl,hw,hs,by simpa using hn,hcap,by simp,⟨fun p x hx=>⟨p,hx⟩,hB.2⟩,fun i2 j2 row2 c2 h1 h2=>?_⟩
   cases i2 with
   |succ i2=>simp at h1
   |zero=>
    simp only[List.getElem?_cons_zero,Option.some.injEq] at h1
    subst h1
    obtain⟨f1,f2⟩:=hf j2 c2 h2
    simp only[Nat.zero_mul,Nat.zero_add]
    exact⟨_,f1,.inr (h j2 c2 h2),f2⟩
theorem dpt_untake(r:Rel K m β w a S){e k id2:Nat}{row:List V}{v:Value}(ho2:hget S.hp id2=.arr e k [row])(hkp:Keeps row)(hv:VRel m β (.ptr id2 k 0 0) v):
  DRel m w (fun x=>β.hid id2 x\/∃c,β id2=some (some (x,c))) (.dpt e row) v:=by
 have hl2:hget S.hp id2≠.dead:=by rw[ho2];simp
 have hown2:=r.own id2
 rw[ho2] at hown2
 cases hv with
 |imm h=>cases h
 | @ptr _ _ _ _ b2 cap2 hb2=>
  rw[hb2] at hown2
  obtain⟨arr2,bl2,p1,p2,p3,p4,p5,p6,p7⟩:=hown2
  have hk:=p5 row (by simp)
  have e1:Value.pointer (some ⟨b2,cap2.off+(0*k+0),none⟩)=.pointer (some ⟨b2,cap2.off,none⟩):=by simp
  rw[e1]
  have g:∀(j:Nat) (c:V),row[j]? = some c->∃v,arr2[cap2.off+j]? = some v/\CRel m β w (bl2 j) c v/\v.oneCell'=true:=fun j c hj=>by
   have:=p7 0 j row c rfl hj
   simpa using this
  refine .pt (n:=cap2.n) bl2 (fun p=>arr2.getD (cap2.off+p) undef) (.inr ⟨cap2,hb2⟩) (fun p hx=>?_) ⟨fun p x hx=>.inl (p6.1 p x hx),p6.2⟩ p1 (by rw[hk];exact p2) (by simpa using p3) p4 (fun j c hj=>?_) (fun j c hj=>?_)
  ·exact(r.hid id2 b2 hl2 (p6.1 p b2 hx)).ne id2 b2 cap2 hl2 hb2 rfl
  ·obtain⟨u,u1,_,u3⟩:=g j c hj
   have:arr2.getD (cap2.off+j) undef=u:=by simp[Array.getD_eq_getD_getElem?,u1]
   simp only[this];exact⟨u1,u3⟩
  ·obtain⟨u,u1,u2,_⟩:=g j c hj
   have:arr2.getD (cap2.off+j) undef=u:=by simp[Array.getD_eq_getD_getElem?,u1]
   simp only[this]
   rcases u2 with h|h
   ·exact .imm (hkp c (List.mem_of_getElem? hj) _ _ _ h)
   ·exact h
theorem ghost_takeMP(id i nx:Nat){es:List (Value×V)}{kv:Value}{e:Nat}{row:List V}(ho:hget S.hp id=.map es)(hi:es[i]? = some (kv,.dpt e row))(hnx:S.nx=nx):
  Ghost K S ⟨S.env,(id,.map (es.set i (kv,.ptr nx row.length 0 0)))::(nx,.arr e row.length [row])::S.hp,nx+1⟩:=by
 subst hnx
 intro m β w a r
 have hfree:β S.nx=none:=r.nx _ (Nat.le_refl _)
 have hl0:hget S.hp id≠.dead:=by rw[ho];simp
 obtain⟨b,cap,hb⟩:=map_loc r ho
 have hne0:id≠S.nx:=fun h=>by rw[h,hfree] at hb;simp at hb
 have hown:=r.own id
 rw[ho,hb] at hown
 obtain⟨ents,clock,bl,q1,q2,q6,q7⟩:=hown
 have hlt:i<ents.size:=by rw[<-q2];exact(List.getElem?_eq_some_iff.1 hi).1
 obtain⟨v1,v2⟩:=q7 i _ ents[i] hi (Array.getElem?_eq_getElem hlt)
 generalize hv:ents[i].val=v at v2
 obtain⟨loc,Bn,hvr,hBn,hloc,hobj⟩:=dpt_take (deepG_inv rfl v2)
 obtain⟨m',β',rr⟩:=r.takeG S.nx (S.nx+1) hfree (fun q hq e=>by have:=(r.pin q hq).1;omega) (Nat.lt_succ_self _) (Nat.le_succ _) hl0 hne0 (bl i) Bn loc (.map (es.set i (kv,.ptr S.nx row.length 0 0))) (.arr e row.length [row]) (fun x hx=>q6.1 _ x hx) hBn hloc hobj (fun β' hle en=>by
  rw[hb]
  refine⟨ents,clock,fun p=>if p=i then (fun _=>False) else bl p,q1,by rw[List.length_set];exact q2,⟨fun p x hx=>?_,fun p p' x hx hx'=>?_⟩,fun i2 p2 en2 h1 h2=>?_⟩
  ·dsimp only at hx
   split at hx
   ·exact hx.elim
   ·rename_i hne;exact⟨q6.1 p x hx,fun h=>hne (q6.2 _ _ x hx h)⟩
  ·dsimp only at hx hx'
   split at hx
   ·exact hx.elim
   ·split at hx'
    ·exact hx'.elim
    ·exact q6.2 _ _ x hx hx'
  ·rw[List.getElem?_set] at h1
   by_cases e2:i=i2
   ·subst e2
    rw[if_pos rfl,if_pos (by rw[q2];exact hlt)] at h1
    simp only[Option.some.injEq] at h1
    subst h1
    rw[Array.getElem?_eq_getElem hlt,Option.some.injEq] at h2
    subst h2
    exact⟨v1,.inl (by rw[hv];exact hvr β' en)⟩
   ·rw[if_neg e2] at h1
    obtain⟨u1,u2⟩:=q7 i2 p2 en2 h1 h2
    refine⟨u1,?_⟩
    show CRel _ _ _ (if _ then _ else _) _ _
    rw[if_neg (Ne.symm e2)]
    exact u2.mono (Mem.le_refl _) hle (fun _ h=>h) (fun _ _=>rfl))
 exact⟨m',β',rr⟩
theorem ghost_untakeMP(id i id2:Nat){es:List (Value×V)}{kv:Value}{e k:Nat}{row:List V}(ho:hget S.hp id=.map es)(hi:es[i]? = some (kv,.ptr id2 k 0 0))(ho2:hget S.hp id2=.arr e k [row])(hne:Nat.beq id id2=false)(hkp:Keeps row):
  Ghost K S ⟨S.env,(id,.map (es.set i (kv,.dpt e row)))::(id2,.dead)::S.hp,S.nx⟩:=by
 have hne:id≠id2:=fun h=>by rw[h,Nat.beq_refl] at hne;simp at hne
 intro m β w a r
 have hl0:hget S.hp id≠.dead:=by rw[ho];simp
 have hl2:hget S.hp id2≠.dead:=by rw[ho2];simp
 obtain⟨b,cap,hb⟩:=map_loc r ho
 have hown:=r.own id
 rw[ho,hb] at hown
 obtain⟨ents,clock,bl,q1,q2,q6,q7⟩:=hown
 have hlt:i<ents.size:=by rw[<-q2];exact(List.getElem?_eq_some_iff.1 hi).1
 obtain⟨v1,v2⟩:=q7 i _ ents[i] hi (Array.getElem?_eq_getElem hlt)
 have v2:=v2.v rfl
 have hd:=dpt_untake r ho2 hkp v2
 let Bn:Nat->Prop:=fun x=>β.hid id2 x\/∃c,β id2=some (some (x,c))
 have hBd:∀x,Bn x->¬β.hid id x:=by
  intro x hx hh
  rcases hx with hx|⟨c,hx⟩
  ·exact hne ((r.hid id2 x hl2 hx).un id hl0 hh)
  ·exact(r.hid id x hl0 hh).ne id2 x c hl2 hx rfl
 obtain⟨m',β',rr⟩:=r.untake hl0 hl2 hne (.map (es.set i (kv,.dpt e row))) (fun β' hle=>by
  rw[hb]
  refine⟨ents,clock,fun p=>if p=i then Bn else bl p,q1,by rw[List.length_set];exact q2,⟨fun p x hx=>?_,fun p p' x hx hx'=>?_⟩,fun i2 p2 en2 h1 h2=>?_⟩
  ·dsimp only at hx
   split at hx
   ·exact .inr hx
   ·exact .inl (q6.1 p x hx)
  ·dsimp only at hx hx'
   split at hx<;>split at hx'
   ·rename_i e1 e2;rw[e1,e2]
   ·exact absurd (q6.1 _ x hx') (hBd x hx)
   ·exact absurd (q6.1 _ x hx) (hBd x hx')
   ·exact q6.2 _ _ x hx hx'
  ·rw[List.getElem?_set] at h1
   by_cases e2:i=i2
   ·subst e2
    rw[if_pos rfl,if_pos (by rw[q2];exact hlt)] at h1
    simp only[Option.some.injEq] at h1
    subst h1
    rw[Array.getElem?_eq_getElem hlt,Option.some.injEq] at h2
    subst h2
    refine⟨v1,?_⟩
    show CRel _ _ _ (if _ then _ else _) _ _
    rw[if_pos rfl];exact .inr hd
   ·rw[if_neg e2] at h1
    obtain⟨u1,u2⟩:=q7 i2 p2 en2 h1 h2
    refine⟨u1,?_⟩
    show CRel _ _ _ (if _ then _ else _) _ _
    rw[if_neg (Ne.symm e2)]
    exact u2.mono (Mem.le_refl _) hle (fun _ h=>h) (fun _ _=>rfl))
 exact⟨m',β',rr⟩
end
end Go.Pv
namespace Go.Pv
open Go
set_option linter.unusedVariables false
set_option linter.unusedSimpArgs false
section
variable{K:Ctx}{Q:Post}{S:St}
variable{ops:Array Oper}{rest:List Oper}
end
section
variable{κ γ α:Type}[DecidableEq κ]
section
variable{K:Ctx}{Q:Post}{S:St}
end
end
end Go.Pv
namespace Go.Pv
open Go
theorem ents_keepK{α:Type}{enc:α->Value×V}[i:EMK enc]{l:List α}:∀p,p∈l.map enc->Keep p.2:=by
 intro p hp
 obtain⟨x,_,rfl⟩:=List.mem_map.1 hp
 exact i.h x
end Go.Pv
namespace Go.Pv
open Go
set_option linter.unusedVariables false
set_option linter.unusedSimpArgs false
def optm{τ:Type}(enc:τ->Value×V):Option (List τ)->V
 |none=>.con (.map none)
 |some l=>.imap (l.map enc)
theorem imm_optm{τ:Type}{enc:τ->Value×V}:∀o:Option (List τ),Imm (optm enc o)
 |none=>Imm.con _
 |some _=>Imm.imap _
theorem one_optm{τ:Type}{enc:τ->Value×V}:∀o:Option (List τ),oneV (optm enc o)=true
 |none=>rfl
 |some _=>rfl
theorem deep_optm{τ:Type}{enc:τ->Value×V}:∀o:Option (List τ),(optm enc o).deep=false
 |none=>rfl
 |some _=>rfl
section
variable{K:Ctx}{Q:Post}{S:St}
variable{ops:Array Oper}{rest:List Oper}{ty:TypeId}{pos:String}{after:Array Edge}{g:Option (Nat×Bool)}
theorem aops_eqNilO{τ:Type}{enc:τ->Value×V}{o:Option (List τ)}{d:Nat}{x y:Operand}{T T':TypeId}(hT:tyMp K.P T=true)(hw:Wants ops S ⟨some d,.binOp .eql T x y T',ty,pos,after,g⟩ true)
  (hx:evl K S x=optm enc o) (hy:evl K S y=.con (.map none)) (hN:Nat.blt d K.N=true)
  (k:AOps K ops rest Q (S.put d (.con (.bool o.isNone)))):AOps K ops (⟨some d,.binOp .eql T x y T',ty,pos,after,g⟩::rest) Q S:=
 aops_val _ hw hN (fun m β w a r=>by
  have h:=r.reads x
  rw[hx] at h
  have key:∃q,a.eval x=.map q/\q.isNone=o.isNone:=by
   cases o with
   |none=>exact⟨none,h.of_con,rfl⟩
   |some l=>
    generalize a.eval x=u at h
    cases h with
    |imm h=>cases h with|imap=>exact⟨_,rfl,rfl⟩
  obtain⟨q,ho,hb⟩:=key
  have hr:=run_eqNilM (P:=K.P) (w:=w) (x:=x) (y:=y) false hT q
  refine⟨.bool o.isNone,?_,.imm (.con _)⟩
  simp only[execOp,ho,r.con hy]
  rw[<-hb]
  exact run_value hr) k
theorem aops_lookupO{κ τ:Type}{enc:κ×τ->Value×V}{ev:τ->V}{o:Option (List (κ×τ))}{d:Nat}{T k e:TypeId}{x y:Operand}{good:Value->Prop}{kv zv:Value}(rs:Option τ)(zd dv:V)(hT:tyMap K.P T k e=true)(hK:KeyT K.P k good)
  (hz:(K.P.info? e).bind (·.zero)=some zv) (hzd:∀m,IRel m zd zv)
  (hw:Wants ops S ⟨some d,.lookup T x y false,ty,pos,after,g⟩ true) (hx:evl K S x=optm enc o) (hy:KeyIs K S y kv) (hg:good kv) (hges:∀p,p∈(o.getD []).map enc->good p.1)
  (hl:Look kv ((o.getD []).map enc) (rs.map ev)) (hd:(rs.map ev).getD zd=dv) (hN:Nat.blt d K.N=true) (hdd:dv.deep=false)
  (kk:AOps K ops rest Q (S.put d dv)):AOps K ops (⟨some d,.lookup T x y false,ty,pos,after,g⟩::rest) Q S:=by
 cases o with
 |none=>
  have:rs.map ev=none:=hl.none_of (fun p hp=>by simp at hp)
  rw[this] at hd
  subst hd
  exact aops_lookupNil zd hT hK hz hzd hw hx hy hg hN kk
 |some l=>exact aops_lookup (rs.map ev) zd dv hT hK hz hzd hw hx .imm hy hg hges hl hd hN kk hdd
def tyNI(P:Program)(T:TypeId):Bool:=match P.underlying T with|some (.interface _)=>false|some _=>true|none=>false
theorem tyNI_inv{P:Program}{T:TypeId}(h:tyNI P T=true):∃d,P.underlying T=some d/\∀x,d≠.interface x:=by
 unfold tyNI at h
 split at h
 ·cases h
 ·rename_i d h1 h2;exact⟨d,h2,fun x e=>h1 x e⟩
 ·cases h
theorem run_tassT{P:Program}{T xT:TypeId}{v:Value}{w:World}(h:tyNI P T=true):(Instr.typeAssert (.iface T v) xT T true).run P w=.ok (.tuple #[v,.bool true]) w:=by
 obtain⟨d,h1,h2⟩:=tyNI_inv h
 simp only[Instr.typeAssert,Sem.run_bind,run_underlying h1,Result.andThen_ok]
 cases d with
 |interface x=>exact absurd rfl (h2 x)
 |_=>simp[pure]
theorem run_tassF{P:Program}{T T' xT:TypeId}{v zv:Value}{w:World}(h:tyNI P T=true)(hne:T'≠T)(hz:(P.info? T).bind (·.zero)=some zv):(Instr.typeAssert (.iface T' v) xT T true).run P w=.ok (.tuple #[zv,.bool false]) w:=by
 obtain⟨d,h1,h2⟩:=tyNI_inv h
 have hzr:(zeroValue T).run P w=.ok zv w:=by
  cases hi:P.info? T with
  |none=>simp[hi] at hz
  |some i=>
   simp[hi] at hz
   simp only[zeroValue,Sem.run_bind,run_typeInfo w hi,Result.andThen_ok,hz];rfl
 simp only[Instr.typeAssert,Sem.run_bind,run_underlying h1,Result.andThen_ok]
 cases d with
 |interface x=>exact absurd rfl (h2 x)
 |_=>simp[pure,hne,hzr,Result.andThen]
theorem aops_tassT{τ:Type}{enc:τ->List V}{y:τ}{k:KV}{d:Nat}{T xT:TypeId}{x:Operand}(hT:tyNI K.P T=true)(hy:vdec enc T k=some y)
  (hw:Wants ops S ⟨some d,.typeAssert x xT T true,ty,pos,after,g⟩ true) (hx:evl K S x=.ifc k.t k.d) (hN:Nat.blt d K.N=true)
  (kk:AOps K ops rest Q (S.put d (.tup [.agg (enc y),.con (.bool true)]))):AOps K ops (⟨some d,.typeAssert x xT T true,ty,pos,after,g⟩::rest) Q S:=by
 obtain⟨e1,e2⟩:=vdec_some hy
 refine aops_val _ hw hN (fun m β w a r=>?_) kk
 have h:=r.reads x
 rw[hx,e1,e2] at h
 obtain⟨v,hv,hd⟩:∃v,a.eval x=.iface T v/\IRel m (.agg (enc y)) v:=by
  generalize a.eval x=u at h
  cases h with
  |imm h=>cases h with|ifc h=>exact⟨_,rfl,h⟩
 refine⟨.tuple #[v,.bool true],?_,.imm (.tup rfl fun i c u hi hu=>?_)⟩
 ·simp only[execOp,hv]
  exact run_value (run_tassT hT)
 ·match i with
  |0=>simp at hi hu;subst hi;subst hu;exact hd
  |1=>simp at hi hu;subst hi;subst hu;exact .con _
  |i+2=>simp at hi
theorem aops_tassF{k:KV}{d:Nat}{T xT:TypeId}{x:Operand}{zv:Value}(zd:V)(hT:tyNI K.P T=true)(hne:Nat.beq k.t T=false)(hz:(K.P.info? T).bind (·.zero)=some zv)(hzd:∀m,IRel m zd zv)
  (hw:Wants ops S ⟨some d,.typeAssert x xT T true,ty,pos,after,g⟩ true) (hx:evl K S x=.ifc k.t k.d) (hN:Nat.blt d K.N=true)
  (kk:AOps K ops rest Q (S.put d (.tup [zd,.con (.bool false)]))):AOps K ops (⟨some d,.typeAssert x xT T true,ty,pos,after,g⟩::rest) Q S:=by
 refine aops_val _ hw hN (fun m β w a r=>?_) kk
 have h:=r.reads x
 rw[hx] at h
 obtain⟨v,hv⟩:∃v,a.eval x=.iface k.t v:=by
  generalize a.eval x=u at h
  cases h with
  |imm h=>cases h with|ifc h=>exact⟨_,rfl⟩
 refine⟨.tuple #[zv,.bool false],?_,.imm (.tup rfl fun i c u hi hu=>?_)⟩
 ·simp only[execOp,hv]
  exact run_value (run_tassF hT (Nat.ne_of_beq_eq_false hne) hz)
 ·match i with
  |0=>simp at hi hu;subst hi;subst hu;exact hzd m
  |1=>simp at hi hu;subst hi;subst hu;exact .con _
  |i+2=>simp at hi
theorem aops_convStr{d:Nat}{x:Operand}{src dst:TypeId}{k':IntKind}{n:Int}(hd:tyStr K.P dst=true)(hs:∃t,K.P.underlying src=some t)
  (hw:Wants ops S ⟨some d,.convert src dst x,ty,pos,after,g⟩ true) (hx:evl K S x=.con (.int k' n)) (hN:Nat.blt d K.N=true)
  (kk:AOps K ops rest Q (S.put d (.con (str (Utf8.encode n).data.toList)))):AOps K ops (⟨some d,.convert src dst x,ty,pos,after,g⟩::rest) Q S:=
 aops_val _ hw hN (fun m β w a r=>⟨.string (Utf8.encode n),by
  obtain⟨t,ht⟩:=hs
  have hd':K.P.underlying dst=some .string:=by unfold tyStr at hd;split at hd<;>simp_all
  simp only[execOp,r.con hx]
  exact run_value (run_convert_int_string w src dst k' n (by rw[ht];rfl) hd'),.imm (.con _)⟩) kk
def tyPt(P:Program)(T:TypeId):Bool:=match P.underlying T with|some (.pointer e)=>Nat.beq e (P.pointee T)|_=>false
theorem aops_eqNilP{d id k i off:Nat}{x y:Operand}{T T':TypeId}(hT:tyPt K.P T=true)(hw:Wants ops S ⟨some d,.binOp .eql T x y T',ty,pos,after,g⟩ true)
  (hx:evl K S x=.ptr id k i off) (hy:evl K S y=.con (.pointer none)) (hN:Nat.blt d K.N=true)
  (kk:AOps K ops rest Q (S.put d (.con (.bool false)))):AOps K ops (⟨some d,.binOp .eql T x y T',ty,pos,after,g⟩::rest) Q S:=
 aops_val _ hw hN (fun m β w a r=>by
  have h:=r.reads x
  rw[hx] at h
  obtain⟨q,hq⟩:∃q,a.eval x=.pointer (some q):=by
   generalize a.eval x=u at h
   cases h with
   |imm h=>cases h
   |ptr h=>exact⟨_,rfl⟩
  have hu:K.P.underlying T=some (.pointer (K.P.pointee T)):=by
   unfold tyPt at hT
   split at hT
   ·rename_i e he;rw[he,Nat.eq_of_beq_eq_true hT]
   ·cases hT
  refine⟨.bool false,?_,.imm (.con _)⟩
  simp only[execOp,hq,r.con hy]
  refine run_value ?_
  have hg:(eqGuard .eql T x y (.pointer (some q)) (.pointer none)).run K.P w=.ok () w:=by unfold eqGuard;simp[pure]
  simp only[Sem.run_bind,hg,Result.andThen_ok,binOp,run_equal_pointer_nil w T (some q) hu]
  rfl) kk
theorem aops_eqNilN{d:Nat}{x y:Operand}{T T':TypeId}(hT:tyPt K.P T=true)(hw:Wants ops S ⟨some d,.binOp .eql T x y T',ty,pos,after,g⟩ true)
  (hx:evl K S x=.con (.pointer none)) (hy:evl K S y=.con (.pointer none)) (hN:Nat.blt d K.N=true)
  (kk:AOps K ops rest Q (S.put d (.con (.bool true)))):AOps K ops (⟨some d,.binOp .eql T x y T',ty,pos,after,g⟩::rest) Q S:=
 aops_val _ hw hN (fun m β w a r=>by
  have hu:K.P.underlying T=some (.pointer (K.P.pointee T)):=by
   unfold tyPt at hT
   split at hT
   ·rename_i e he;rw[he,Nat.eq_of_beq_eq_true hT]
   ·cases hT
  refine⟨.bool true,?_,.imm (.con _)⟩
  simp only[execOp,r.con hx,r.con hy]
  refine run_value ?_
  have hg:(eqGuard .eql T x y (.pointer none) (.pointer none)).run K.P w=.ok () w:=by unfold eqGuard;simp[pure]
  simp only[Sem.run_bind,hg,Result.andThen_ok,binOp,run_equal_pointer_nil w T none hu]
  rfl) kk
end
section
variable{κ τ:Type}[DecidableEq κ]
def dopt(e:Nat)(enc:τ->List V):Option τ->V
 |none=>.con (.pointer none)
 |some x=>.dpt e (enc x)
def holeP(E:κ×Option τ->Value×V)(o:V)(k0:κ):List (κ×Option τ)->List (Value×V)
 |[]=>[]
 |p::xs=>if p.1=k0 then ((E p).1,o)::xs.map E else E p::holeP E o k0 xs
variable(E:κ×Option τ->Value×V)(kf:κ->Value)(enc:τ->List V)(e:Nat)(hE:∀p,E p=(kf p.1,dopt e enc p.2))(k0:κ)
theorem holeP_of(o:V)(hE:∀p,E p=(kf p.1,dopt e enc p.2))(x:τ):∀xs:List (κ×Option τ),mget xs k0=some (some x)->∃i,(xs.map E)[i]? = some (kf k0,.dpt e (enc x))/\holeP E o k0 xs=(xs.map E).set i (kf k0,o)
 |[],h=>by simp[mget] at h
 |p::xs,h=>by
  simp only[holeP]
  by_cases hp:p.1=k0
  ·rw[if_pos hp]
   rw[mget,if_pos hp] at h
   refine⟨0,?_,?_⟩
   ·simp only[List.map_cons,List.getElem?_cons_zero,hE,hp]
    rw[Option.some.inj h];rfl
   ·simp only[List.map_cons,List.set_cons_zero,hE,hp]
  ·rw[if_neg hp]
   rw[mget,if_neg hp] at h
   obtain⟨i,h1,h2⟩:=holeP_of o hE x xs h
   exact⟨i+1,by simpa using h1,by simp[h2]⟩
theorem holeP_at(o:V)(hE:∀p,E p=(kf p.1,dopt e enc p.2))(y:τ):∀xs:List (κ×Option τ),(mget xs k0).isSome=true->∃i,(holeP E o k0 xs)[i]? = some (kf k0,o)/\(mput xs k0 (some y)).map E=(holeP E o k0 xs).set i (kf k0,.dpt e (enc y))
 |[],h=>by simp[mget] at h
 |p::xs,h=>by
  obtain⟨q,v⟩:=p
  simp only[holeP,mput]
  by_cases hp:q=k0
  ·rw[if_pos hp,if_pos hp]
   exact⟨0,by simp[hE,hp],by simp only[List.map_cons,List.set_cons_zero,hE];rfl⟩
  ·rw[if_neg hp,if_neg hp]
   rw[mget,if_neg hp] at h
   obtain⟨i,h1,h2⟩:=holeP_at o hE y xs h
   exact⟨i+1,by simpa using h1,by simp[h2]⟩
theorem holeP_look(o:V)(hE:∀p,E p=(kf p.1,dopt e enc p.2))(hk:∀a b,kf a=kf b->a=b):∀xs:List (κ×Option τ),(mget xs k0).isSome=true->Look (kf k0) (holeP E o k0 xs) (some o)
 |[],h=>by simp[mget] at h
 |p::xs,h=>by
  simp only[holeP]
  by_cases hp:p.1=k0
  ·rw[if_pos hp,show(E p).1=kf k0 by rw[hE,hp]];exact .here
  ·rw[if_neg hp]
   rw[mget,if_neg hp] at h
   rw[hE p]
   exact .there (fun e=>hp (hk _ _ e)) (holeP_look o hE hk xs h)
theorem lookP_none(hE:∀p,E p=(kf p.1,dopt e enc p.2))(hk:∀a b,kf a=kf b->a=b):∀xs:List (κ×Option τ),mget xs k0=none->Look (kf k0) (xs.map E) none
 |[],_=>.nil
 |p::xs,h=>by
  rw[List.map_cons,hE p]
  by_cases hp:p.1=k0
  ·rw[mget,if_pos hp] at h;cases h
  ·rw[mget,if_neg hp] at h
   exact .there (fun e=>hp (hk _ _ e)) (lookP_none hE hk xs h)
theorem putsP_new(o:V)(v:Option τ)(hE:∀p,E p=(kf p.1,dopt e enc p.2))(hk:∀a b,kf a=kf b->a=b):∀xs:List (κ×Option τ),mget xs k0=none->Puts (kf k0) o (xs.map E) (holeP E o k0 (mput xs k0 v))
 |[],_=>by simp only[mput,holeP,List.map_nil,if_pos,hE];exact .nil
 |p::xs,h=>by
  obtain⟨q,u⟩:=p
  by_cases hp:q=k0
  ·rw[mget,if_pos hp] at h;cases h
  ·rw[mget,if_neg hp] at h
   simp only[mput,if_neg hp,holeP,List.map_cons]
   rw[hE (q,u)]
   exact .there (fun e=>hp (hk _ _ e)) (putsP_new o v hE hk xs h)
theorem holeP_good(o:V){good:Value->Prop}(hg:∀p,good (E p).1):∀(xs:List (κ×Option τ)) (p:Value×V),p∈holeP E o k0 xs->good p.1
 |[],p,h=>by simp[holeP] at h
 |q::xs,p,h=>by
  simp only[holeP] at h
  split at h
  ·rcases List.mem_cons.1 h with h|h
   ·subst h;exact hg q
   ·obtain⟨z,_,rfl⟩:=List.mem_map.1 h;exact hg z
  ·rcases List.mem_cons.1 h with h|h
   ·subst h;exact hg q
   ·exact holeP_good o hg xs p h
theorem ObSub.holeP{Y:Hy}[HyMC Y]{o o':V}(ho:CSub Y o o')(hk:∀p,CSub Y (E p).2 (E p).2):∀xs:List (κ×Option τ),ObSub Y (.map (holeP E o k0 xs)) (.map (Go.Pv.holeP E o' k0 xs))
 |[]=>⟨rfl,fun i p p' h=>by simp[Go.Pv.holeP] at h⟩
 |q::xs=>by
  have same:∀(l:List (κ×Option τ)) (i:Nat) (p p':Value×V),(l.map E)[i]? = some p->(l.map E)[i]? = some p'->p.1=p'.1/\CSub Y p.2 p'.2:=fun l i p p' h1 h2=>by
   rw[h1,Option.some.injEq] at h2;subst h2
   obtain⟨z,_,rfl⟩:=List.mem_map.1 (List.mem_of_getElem? h1)
   exact⟨rfl,hk z⟩
  obtain⟨g1,g2⟩:=ObSub.holeP ho hk xs
  simp only[Go.Pv.holeP]
  split
  ·refine⟨by simp,fun i p p' h1 h2=>?_⟩
   cases i with
   |zero=>simp at h1 h2;subst h1;subst h2;exact⟨rfl,ho⟩
   |succ i=>simp only[List.getElem?_cons_succ] at h1 h2;exact same xs i p p' h1 h2
  ·refine⟨by simp[g1],fun i p p' h1 h2=>?_⟩
   cases i with
   |zero=>simp at h1 h2;subst h1;subst h2;exact⟨rfl,hk q⟩
   |succ i=>simp only[List.getElem?_cons_succ] at h1 h2;exact g2 i p p' h1 h2
end
section
variable{K:Ctx}{S:St}
variable{κ τ:Type}[DecidableEq κ]
theorem ghost_takeP(id nx:Nat){xs:List (κ×Option τ)}{k0:κ}{x:τ}(E:κ×Option τ->Value×V)(kf:κ->Value)(enc:τ->List V)(e k:Nat)(hE:∀p,E p=(kf p.1,dopt e enc p.2))(hlen:(enc x).length=k)
  (hs:mget xs k0=some (some x)) (ho:hget S.hp id=.map (xs.map E)) (hnx:S.nx=nx):
  Ghost K S ⟨S.env,(id,.map (holeP E (.ptr nx k 0 0) k0 xs))::(nx,.arr e k [enc x])::S.hp,nx+1⟩:=by
 subst hlen
 obtain⟨i,h1,h2⟩:=holeP_of E kf enc e k0 (.ptr nx (enc x).length 0 0) hE x xs hs
 rw[h2]
 exact ghost_takeMP id i nx ho h1 hnx
theorem ghost_putP(id id2:Nat){xs:List (κ×Option τ)}{k0:κ}{y:τ}(E:κ×Option τ->Value×V)(kf:κ->Value)(enc:τ->List V)(e k:Nat)(hE:∀p,E p=(kf p.1,dopt e enc p.2))
  (hs:(mget xs k0).isSome=true) (ho:hget S.hp id=.map (holeP E (.ptr id2 k 0 0) k0 xs)) (ho2:hget S.hp id2=.arr e k [enc y]) (hne:Nat.beq id id2=false) (hi:Keeps (enc y)):
  Ghost K S ⟨S.env,(id,.map ((mput xs k0 (some y)).map E))::(id2,.dead)::S.hp,S.nx⟩:=by
 obtain⟨i,h1,h2⟩:=holeP_at E kf enc e k0 (.ptr id2 k 0 0) hE y xs hs
 rw[h2]
 exact ghost_untakeMP id i id2 ho h1 ho2 hne hi
end
section
variable{α τ:Type}
def YOk(P:Program)(l:Nat)(k:Nat)(hp0:Heap)(m0:Mem)(β0:Locs)(w0:World)(hpf:α->Heap)(enc:τ->V)(R:α->τ->Option α):Prop:=
 ∀(p:α) (x:τ) (r:α) (m:Mem) (β:Locs) (w:World) (v:Value),R p x=some r->After m0 β0 w0 k hp0 m β w k (hpf p)->IRel m (enc x) v->
  YieldAt Fence.wide 0 P l #[v] w fun e w'=>e=.returned (.bool true)/\∃m' β',After m β w k (hpf p) m' β' w' k (hpf r)
abbrev yV(l:Nat):V:=.con (.func (.yield l) #[] #[])
def IterG(gl:Gl)(P:Program)(f:FuncId)(first:List V)(k:Nat)(hpf:α->Heap)(enc:τ->V)(R:α->τ->Option α)(p0 pE:α):Prop:=
 ∀(m:Mem) (β:Locs) (w:World) (vs:Array Value) (l:Nat),(∀(b:Nat) o,m b=some o->w.heap[b]? = some o)->GlOk gl m->VRels m β first vs->Handed m β w k (hpf p0)->
  YOk P l k (hpf p0) m β w hpf enc R->Calls P f (vs++#[.func (.yield l) #[] #[]]) w fun e w'=>∃v m' β',e=.returned v/\After m β w k (hpf p0) m' β' w' k (hpf pE)
end
section
variable{K:Ctx}{Q:Post}{S:St}{s:List It}
variable{m:Mem}{β:Locs}{w:World}{a:Act}
variable{ops:Array Oper}{rest:List Oper}{ty:TypeId}{pos:String}{after:Array Edge}{g:Option (Nat×Bool)}
variable{α τ:Type}
theorem iter_enter{gl:Gl}{P:Program}{f:FuncId}{fn:Func}{c:Code}{N k:Nat}{first:List V}{hpf:α->Heap}{enc:τ->V}{R:α->τ->Option α}{p0 pE:α}(hf:P.funcs[f]? = some fn)(hb:fn.body=some c)(hN:fn.ntmps=N)
  (hl:fn.results=#[]) (ha:Nat.ble (first.length+1) N=true) (env:Nat->Env) (henv:∀l,argEnv 0 (first++[yV l])=env l)
  (h:∀(w0:World) (m0:Mem) (β0:Locs) (hg:GlOk gl m0) (l:Nat),YOk P l k (hpf p0) m0 β0 w0 hpf enc R->AWP (mctx gl P N k (hpf p0) w0 m0 β0 hg) c (retM (mctx gl P N k (hpf p0) w0 m0 β0 hg) [] [] k (hpf pE)) ⟨env l,hpf p0,k⟩):
  IterG gl P f first k hpf enc R p0 pE:=by
 intro m β w vs l himm hgl hargs hh hY
 have hm:MutG gl P f (first++[yV l]) k (hpf p0) (resV []) k (hpf pE)->True:=fun _=>trivial
 have ha:=Nat.le_of_ble_eq_true ha
 have hargs':VRels m β (first++[yV l]) (vs++#[.func (.yield l) #[] #[]]):=by
  refine⟨by simp[hargs.len],fun i c v h1 h2=>?_⟩
  rw[List.getElem?_append] at h1
  rw[Array.getElem?_append,<-hargs.len] at h2
  split at h1
  ·rename_i hlt
   rw[if_pos hlt] at h2
   exact hargs.at' i c v h1 h2
  ·rename_i hlt
   rw[if_neg hlt] at h2
   cases hj:i - first.length with
   |zero=>rw[hj] at h1 h2;simp at h1 h2;subst h1;subst h2;exact .imm (.con _)
   |succ j=>rw[hj] at h1;simp at h1
 refine calls_of_walk hf hb ?_
 have hsz:((vs++#[Value.func (.yield l) #[] #[]])++Array.replicate (fn.ntmps - (vs++#[Value.func (.yield l) #[] #[]]).size) undef).size=N:=by
  have:=hargs'.len
  simp only[Array.size_append,Array.size_replicate,hN,List.length_append,List.length_singleton] at this ⊢;omega
 have r:Rel (mctx gl P N k (hpf p0) w m β hgl) m β w ⟨(vs++#[Value.func (.yield l) #[] #[]])++Array.replicate (fn.ntmps - (vs++#[Value.func (.yield l) #[] #[]]).size) undef,[]⟩ ⟨env l,hpf p0,k⟩:=by
  constructor
  ·exact himm
  ·exact Mem.le_refl _
  ·exact fun _ _ _=>rfl
  ·exact fun _ _ _=>rfl
  ·exact Nat.le_refl _
  ·exact⟨rfl,rfl,rfl,trivial⟩
  ·exact hsz
  ·exact Marks.nil
  ·intro t
   show VRel _ _ (get (env l) t) _
   rw[<-henv,get_argEnv]
   simp only[Nat.zero_le,if_true,Nat.sub_zero]
   by_cases ht:t<(first++[yV l]).length
   ·have ht':t<(vs++#[Value.func (.yield l) #[] #[]]).size:=by rw[<-hargs'.len];exact ht
    simp only[List.getD_eq_getElem?_getD,List.getElem?_eq_getElem ht,Option.getD_some,Array.getD_eq_getD_getElem?]
    rw[Array.getElem?_append,if_pos ht',Array.getElem?_eq_getElem ht']
    exact hargs'.at' t _ _ (List.getElem?_eq_getElem ht) (Array.getElem?_eq_getElem ht')
   ·simp only[List.getD_eq_getElem?_getD,List.getElem?_eq_none (Nat.le_of_not_lt ht),Option.getD_none]
    exact .imm (.any _)
  ·exact hh.own
  ·exact fun id b cap hl hb=>⟨hh.priv id b cap hl hb,fun _ hF=>(hF id hl).1 cap hb⟩
  ·exact hh.inj
  ·exact fun id x hl hx=>let q:=hh.hid id x hl hx;⟨q.1,q.2.1,fun _ hF=>(hF id hl).2 hx,q.2.2.1,q.2.2.2⟩
  ·exact hh.nx
  ·exact fun q hq=>⟨hq,rfl⟩
 refine wpIn_mono (h w m β hgl l hY m _ w _ r) ?_
 rintro e a' w1 ⟨_,S1,m1,β1,⟨he,env',hg',hres⟩,r1⟩
 obtain⟨m2,β',r2⟩:=hg' _ _ _ _ r1
 refine⟨he,Rel.leave _ m2 w1 a' rfl r2 (fun m' w' r'=>?_)⟩
 obtain⟨v,h1,h2⟩:=hres.runs (fn:=fn) (by rw[hl]) r'
 exact⟨v,h1,v,m',β',rfl,r'.ext,r'.imm,fun b hb hF=>⟨r'.mold b hb hF,r'.frame b hb hF⟩,r'.size,r'.same,r'.own,r'.priv,r'.inj,fun id x hl hx=>let q:=r'.hid id x hl hx;⟨q.lt,q.m,q.old,q.ne,q.un⟩,r'.nx,r'.pin⟩
theorem Rel.since{gl:Gl}{P:Program}{N k:Nat}{hp0 hp:Heap}{w0:World}{m0:Mem}{β0:Locs}{hg:GlOk gl m0}(r:Rel (mctx gl P N k hp0 w0 m0 β0 hg) m β w a S)(hhp:HpOk (Ren k (fun i=>i)) k (fun i=>i) S.hp hp):
  After m0 β0 w0 k hp0 m (β.sub k (fun i=>i)) w k hp:=by
 have H:=r.hand hhp (fun i j _ _ e=>e)
 have hlive:∀id,hget hp id≠.dead->id<k/\hget S.hp id≠.dead:=by
  intro id h
  obtain⟨h1,h2⟩:=hhp id
  refine⟨h1.resolve_left h,fun hd=>?_⟩
  rw[hd] at h2
  cases ho:hget hp id with
  |dead=>exact h ho
  |arr=>rw[ho] at h2;simp[ObSub] at h2
  |res=>rw[ho] at h2;simp[ObSub] at h2
  |map=>rw[ho] at h2;simp[ObSub] at h2
  |iter=>rw[ho] at h2;simp[ObSub] at h2
  |bld=>rw[ho] at h2;simp[ObSub] at h2
 have e0:∀id,id<k->(β.sub k (fun i=>i)) id=β id:=fun id h=>by show(if _ then _ else _)=_;rw[if_pos h]
 refine⟨r.ext,r.imm,fun b hb hF=>⟨r.mold b hb hF,r.frame b hb hF⟩,r.size,r.same,H.own,fun id b cap hl hb=>⟨H.priv id b cap hl hb,?_⟩,H.inj,fun id x hl hx=>?_,H.nx,fun q hq=>⟨hq,?_⟩⟩
 ·obtain⟨h1,h2⟩:=hlive id hl
  rw[e0 id h1] at hb
  exact(r.priv id b cap h2 hb).2
 ·obtain⟨q1,q2,q3,q4⟩:=H.hid id x hl hx
  obtain⟨h1,h2⟩:=hlive id hl
  exact⟨q1,q2,(r.hid id x h2 hx).old,q3,q4⟩
 ·rw[e0 q hq];exact(r.pin q hq).2
theorem aops_yield{gl:Gl}{P:Program}{N k:Nat}{hp0:Heap}{w0:World}{m0:Mem}{β0:Locs}{hg:GlOk gl m0}{d l:Nat}{x y:Operand}{at':Array TypeId}{hpf:α->Heap}{enc:τ->V}{R:α->τ->Option α}{p r:α}{z:τ}(τi:Nat->Nat)(u:Heap)
  (hY:YOk P l k hp0 m0 β0 w0 hpf enc R) (hR:R p z=some r)
  (hw:Wants ops S ⟨some d,.call ⟨.value x,#[y],at'⟩,ty,pos,after,g⟩ true) (hN:Nat.blt d N=true) (hx:evl (mctx gl P N k hp0 w0 m0 β0 hg) S x=yV l) (hy:evl (mctx gl P N k hp0 w0 m0 β0 hg) S y=enc z) (hi:Imm (enc z))
  (hτi:∀i,i<k->τi i=i) (hhp:HpSub (Ren k (fun i=>i)) k (fun i=>i) S.hp (hpf p)) (hto:toB k k S.nx S.nx (fun i=>i) τi (fun _=>false)=true) (hτ:injB k τi=true)
  (hu:HpTo (To k τi) τi (hpf r) k 0 u)
  (kk:AOps (mctx gl P N k hp0 w0 m0 β0 hg) ops rest Q ⟨(d,.con (.bool true))::S.env,u++S.hp,S.nx⟩):
  AOps (mctx gl P N k hp0 w0 m0 β0 hg) ops (⟨some d,.call ⟨.value x,#[y],at'⟩,ty,pos,after,g⟩::rest) Q S:=by
 intro m β w a rr
 unfold wpListIn
 rw[if_pos (hw.at rr)]
 have hv:=rr.reads x
 rw[hx] at hv
 have hfv:=hv.of_con
 have hyv:=rr.reads y
 rw[hy] at hyv
 have hyi:IRel m (enc z) (a.eval y):=hi.2 _ _ _ hyv
 obtain⟨fn,tmps,assign,body,e1,hR2⟩:=hY p z r m _ w (a.eval y) hR (rr.since (HpSub.get hhp)) hyi
 have hop:(Oper.semAt none a.eval ⟨some d,.call ⟨.value x,#[y],at'⟩,ty,pos,after,g⟩).run P w=.ok (.round l fn tmps assign body) w:=by
  rw[Oper.semAt_none]
  simp only[execOp,resolve,hfv,Deferred.ofValue,invoke,Sem.run_bind,pure,Sem.run,Result.andThen_ok]
  simpa using e1
 refine⟨fun _ _=>trivial,?_⟩
 show Oper.uponIn _ _ _ _ _ _ _ ((Oper.semAt none a.eval _).run P w)
 rw[hop]
 simp only[Oper.uponIn]
 refine⟨fun h=>by simp[Fence.wide] at h,RoundIn.mono hR2 ?_⟩
 rintro e w' ⟨rfl,m',β',ga⟩
 obtain⟨β2,r2,_⟩:=rr.back (fun i=>i) τi S.nx u (fun _=>false) (HpSub.get hhp) (fun _ h=>by simp at h) hto hτ (Nat.ble_eq_true_of_le (Nat.le_refl _)) (Nat.ble_eq_true_of_le (Nat.le_refl _)) (fun _ h=>by simp at h) hu ga
 exact kk m' β2 w' _ (r2.put hN (.imm (.con _)))
end
section
variable{K:Ctx}{Q:Post}{S:St}{s:List It}
variable{m:Mem}{β:Locs}{w:World}{a:Act}
variable{α τ:Type}
@[reducible] def rctx(gl:Gl)(P:Program)(N k l:Nat)(old:Nat->Prop)(loc:Nat->Option (Option (Nat×Cap)))(w0:World)(m0:Mem)(hg:GlOk gl m0):Ctx:=⟨P,N,w0,m0,old,k,loc,gl,hg,some l⟩
theorem Rel.touch(r:Rel K m β w a S)(l:Nat)(o:Obj)(hl:m l=none)(hown:∀id b cap,hget S.hp id≠.dead->β id=some (some (b,cap))->b≠l)(hhid:∀id,hget S.hp id≠.dead->¬β.hid id l)(hfr:l<K.w0.heap.size->¬K.old l):
  Rel K m β (w.putObj l o) a S:=by
 have hne:∀x,x≠l->(w.putObj l o).heap[x]? = w.heap[x]?:=fun x hx=>World.putObj_heap_other hx
 refine⟨fun b o' h=>?_,r.ext,r.mold,fun b hb ho=>?_,by rw[World.putObj_size];exact r.size,⟨r.same.os,r.same.tape,r.same.output,r.same.drawn⟩,r.tn,r.df,r.env,fun id=>?_,r.priv,r.inj,fun id x hx hh=>?_,r.nx,r.pin⟩
 ·have:b≠l:=fun e=>by rw[e,hl] at h;cases h
  rw[hne b this];exact r.imm _ _ h
 ·have:b≠l:=fun e=>hfr (e ▸ hb) (e ▸ ho)
  rw[hne b this];exact r.frame b hb ho
 ·by_cases hd:hget S.hp id=.dead
  ·rw[hd];exact ObOk.dead' _
  ·exact ObOk.congr (fun b cap hb=>hne b (hown id b cap hd hb)) (fun x hx=>hne x (fun e=>hhid id hd (e ▸ hx))) (r.own id)
 ·have q:=r.hid id x hx hh
  exact⟨by rw[World.putObj_size];exact q.lt,q.m,q.old,q.ne,q.un⟩
theorem Rel.anew(r:Rel K m β w ⟨a.tmps,[]⟩ S)(l:Nat)(o:Obj)(hl:m l=none)(h1:l<K.w0.heap.size)(h2:K.old l):
  Rel ⟨K.P,K.N,w.putObj l o,m,fun b=>b<K.w0.heap.size/\K.old b,K.pins,K.loc,K.gl,K.glok.mono r.ext,K.rd⟩ m β (w.putObj l o) ⟨a.tmps,[]⟩ S:=by
 have hne:∀x,x≠l->(w.putObj l o).heap[x]? = w.heap[x]?:=fun x hx=>World.putObj_heap_other hx
 refine⟨fun b o' h=>?_,Mem.le_refl _,fun _ _ _=>rfl,fun _ _ _=>rfl,Nat.le_refl _,⟨rfl,rfl,rfl,trivial⟩,r.tn,Marks.nil,r.env,fun id=>?_,fun id b cap hd hb=>⟨(r.priv id b cap hd hb).1,fun _ ho=>(r.priv id b cap hd hb).2 ho.1 ho.2⟩,r.inj,fun id x hx hh=>?_,r.nx,r.pin⟩
 ·have:b≠l:=fun e=>by rw[e,hl] at h;cases h
  rw[hne b this];exact r.imm _ _ h
 ·by_cases hd:hget S.hp id=.dead
  ·rw[hd];exact ObOk.dead' _
  ·exact ObOk.congr (fun b cap hb=>hne b (fun e=>(r.priv id b cap hd hb).2 (e ▸ h1) (e ▸ h2))) (fun x hx=>hne x (fun e=>(r.hid id x hd hx).old (e ▸ h1) (e ▸ h2))) (r.own id)
 ·have q:=r.hid id x hx hh
  exact⟨by rw[World.putObj_size];exact q.lt,q.m,fun _ ho=>q.old ho.1 ho.2,q.ne,q.un⟩
theorem foreign_since{m0 m:Mem}{β0 β:Locs}{w0 w:World}{k:Nat}{hp0 hp:Heap}(g:After m0 β0 w0 k hp0 m β w k hp){l:Nat}(hl:l<w0.heap.size)(hF:Foreign hp0 β0 l):Foreign hp β l:=
 fun id hd=>⟨fun cap hb=>(g.priv id l cap hd hb).2 hl hF,fun hx=>(g.hid id l hd hx).2.2.1 hl hF⟩
theorem yok_round{gl:Gl}{P:Program}{N k:Nat}{hp0:Heap}{m0:Mem}{β0:Locs}{w0:World}{hpf:α->Heap}{enc:τ->V}{R:α->τ->Option α}{assign body:Code}(l D fn t:Nat)(tmps:Array Value)(E:Env)
  (hl:w0.heap[l]? = some (.loop { state:=.ready,pending:=none,fn,tmps,params:=#[t],assign,body,defers:=D })) (hlm:m0 l=none) (hlF:Foreign hp0 β0 l) (hgl:GlOk gl m0) (hsz:tmps.size=N) (ht:Nat.blt t N=true)
  (hβ:∀id,k<=id->β0 id=none) (henv:∀q,VRel m0 β0 (get E q) (tmps.getD q undef))
  (hround:∀(p:α) (x:τ) (r:α),R p x=some r->∃S1:St,(∀old loc w m (h:GlOk gl m),AWP (rctx gl P N k l old loc w m h) assign (fun e T=>e=.normal/\T=S1) ⟨(t,enc x)::E,hpf p,k⟩)/\
   ∀old loc w m (h:GlOk gl m),AWP (rctx gl P N k l old loc w m h) body (fun e T=>e=.normal/\∃env',Ghost (rctx gl P N k l old loc w m h) T ⟨env',hpf r,k⟩) S1):
  YOk P l k hp0 m0 β0 w0 hpf enc R:=by
 intro p x r m β w v hR g hv
 obtain⟨S1,hA,hB⟩:=hround p x r hR
 have hl0:l<w0.heap.size:=lt_of_some hl
 have hlw:w.heap[l]? = some (.loop { state:=.ready,pending:=none,fn,tmps,params:=#[t],assign,body,defers:=D }):=(g.old l hl0 hlF).2.trans hl
 have hlm':m l=none:=(g.old l hl0 hlF).1.trans hlm
 have hlt:l<w.heap.size:=lt_of_some hlw
 have hFl:Foreign (hpf p) β l:=foreign_since g hl0 hlF
 have hgm:GlOk gl m:=hgl.mono g.le
 have ht':t<tmps.size:=by rw[hsz];exact Nat.le_of_ble_eq_true ht
 have hβle:β0.le β:=by
  intro id q hq
  have:id<k:=Nat.lt_of_not_le fun h=>by rw[hβ id h] at hq;cases hq
  rw[(g.pin id this).2];exact hq
 have r1:Rel (rctx gl P N k l (Foreign (hpf p) β) β.f w m hgm) m β w ⟨tmps.setIfInBounds t v,[]⟩ ⟨(t,enc x)::E,hpf p,k⟩:=by
  constructor
  ·exact g.imm
  ·exact Mem.le_refl _
  ·exact fun _ _ _=>rfl
  ·exact fun _ _ _=>rfl
  ·exact Nat.le_refl _
  ·exact⟨rfl,rfl,rfl,trivial⟩
  ·simpa using hsz
  ·exact Marks.nil
  ·intro q
   show VRel _ _ (get ((t,enc x)::E) q) _
   rw[get_put,Array.getD_eq_getD_getElem?,Array.getElem?_setIfInBounds]
   by_cases e:t=q
   ·subst e;simp only[if_true,if_pos ht',Option.getD_some];exact .imm hv
   ·rw[if_neg e,if_neg e,<-Array.getD_eq_getD_getElem?];exact(henv q).mono g.le hβle
  ·exact g.own
  ·exact fun id b cap hd hb=>⟨(g.priv id b cap hd hb).1,fun _ hF=>(hF id hd).1 cap hb⟩
  ·exact g.inj
  ·exact fun id y hd hy=>let q:=g.hid id y hd hy;⟨q.1,q.2.1,fun _ hF=>(hF id hd).2 hy,q.2.2.2.1,q.2.2.2.2⟩
  ·exact g.nx
  ·exact fun q hq=>⟨hq,rfl⟩
 refine⟨fn,_,assign,body,run_yield hlw rfl,?_⟩
 have htm:(Array.zip #[t] #[v]).foldl (fun tmps (q:Nat×Value)=>tmps.setIfInBounds q.1 q.2) tmps=tmps.setIfInBounds t v:=by simp
 refine roundIn_of_wpIn trivial ?_
 show assign.wpIn (Fence.wide.inRound l) 0 P _ { tmps:=(Array.zip #[t] #[v]).foldl (fun tmps (q:Nat×Value)=>tmps.setIfInBounds q.1 q.2) tmps,defers:=[] } w
 rw[htm]
 refine wpIn_mono (hA _ _ _ _ hgm m β w _ r1) ?_
 rintro e a1 w1 ⟨_,T,m1,β1,⟨rfl,rfl⟩,r2⟩
 have hl1:w1.heap[l]? = some (.loop { state:=.ready,pending:=none,fn,tmps,params:=#[t],assign,body,defers:=D }):=(r2.frame l hlt hFl).trans hlw
 have hm1:m1 l=none:=(r2.mold l hlt hFl).trans hlm'
 refine⟨_,run_beginRound hl1 rfl,?_⟩
 have ha1:a1=⟨a1.tmps,[]⟩:=by
  have:=r2.df.em rfl
  cases a1;simp at this;subst this;rfl
 rw[ha1] at r2 ⊢
 have r3:=r2.anew (a:=a1) l (.loop { state:=.busy,pending:=none,fn,tmps,params:=#[t],assign,body,defers:=D }) hm1 hlt hFl
 have hl1t:l<w1.heap.size:=lt_of_some hl1
 refine wpIn_mono (hB _ _ _ _ (hgm.mono r2.ext) m1 β1 _ _ r3) ?_
 rintro e a3 w3 ⟨_,T3,m3',β3',⟨rfl,env',hgh⟩,r4'⟩
 obtain⟨m3,β3,r4⟩:=hgh _ _ _ _ r4'
 have hl2t:l<(w1.putObj l (.loop { state:=.busy,pending:=none,fn,tmps,params:=#[t],assign,body,defers:=D })).heap.size:=by rw[World.putObj_size];exact hl1t
 have hl3:w3.heap[l]? = some (.loop { state:=.busy,pending:=none,fn,tmps,params:=#[t],assign,body,defers:=D }):=(r4.frame l hl2t ⟨hlt,hFl⟩).trans (World.putObj_heap_same hl1t)
 have hm3:m3 l=none:=(r4.mold l hl2t ⟨hlt,hFl⟩).trans hm1
 refine⟨_,_,run_endRound none hl3,rfl,m3,β3,?_⟩
 have hne:∀(o:Obj) (W:World) x,x≠l->(W.putObj l o).heap[x]? = W.heap[x]?:=fun o W x hx=>World.putObj_heap_other hx
 have hl3t:l<w3.heap.size:=lt_of_some hl3
 have hsz2:w.heap.size<=w3.heap.size:=by
  have h1:=r2.size
  have h2:=r4.size
  rw[World.putObj_size] at h2
  exact Nat.le_trans h1 h2
 have own3:∀id b cap,hget (hpf r) id≠.dead->β3 id=some (some (b,cap))->b≠l:=fun id b cap hd hb e=>(r4.priv id b cap hd hb).2 (by rw[e];exact hl2t) (by rw[e];exact⟨hlt,hFl⟩)
 have hid3:∀id,hget (hpf r) id≠.dead->¬β3.hid id l:=fun id hd hx=>(r4.hid id l hd hx).old hl2t ⟨hlt,hFl⟩
 refine⟨Mem.le_trans r2.ext r4.ext,fun b o h=>?_,fun b hb hF=>?_,by rw[World.putObj_size];exact hsz2,?_,fun id=>?_,fun id b cap hd hb=>⟨(r4.priv id b cap hd hb).1,fun hb0 hF=>(r4.priv id b cap hd hb).2 ?_ ⟨hb0,hF⟩⟩,r4.inj,fun id y hd hy=>?_,r4.nx,r4.pin⟩
 ·have:b≠l:=fun e=>by rw[e,hm3] at h;cases h
  rw[hne _ _ b this];exact r4.imm _ _ h
 ·have hb2:b<(w1.putObj l (.loop { state:=.busy,pending:=none,fn,tmps,params:=#[t],assign,body,defers:=D })).heap.size:=by rw[World.putObj_size];exact Nat.lt_of_lt_of_le hb r2.size
  refine⟨(r4.mold b hb2 ⟨hb,hF⟩).trans (r2.mold b hb hF),?_⟩
  by_cases e:b=l
  ·subst e
   rw[hlw]
   exact World.putObj_heap_same hl3t
  ·rw[hne _ _ b e,r4.frame b hb2 ⟨hb,hF⟩,hne _ _ b e];exact r2.frame b hb hF
 ·exact Same.trans r2.same (Same.trans (b:=w1.putObj l _) ⟨rfl,rfl,rfl,trivial⟩ (Same.trans r4.same ⟨rfl,rfl,rfl,trivial⟩))
 ·by_cases hd:hget (hpf r) id=.dead
  ·rw[hd];exact ObOk.dead' _
  ·exact ObOk.congr (fun b cap hb=>hne _ _ b (own3 id b cap hd hb)) (fun x hx=>hne _ _ x (fun e=>hid3 id hd (e ▸ hx))) (r4.own id)
 ·rw[World.putObj_size];exact Nat.lt_of_lt_of_le hb0 r2.size
 ·have q:=r4.hid id y hd hy
  refine⟨by rw[World.putObj_size];exact q.lt,q.m,fun hb0 hF=>q.old ?_ ⟨hb0,hF⟩,q.ne,q.un⟩
  rw[World.putObj_size];exact Nat.lt_of_lt_of_le hb0 r2.size
theorem awp_rangeFunc{t gt:Tmp}{assign body:Code}{f k:Nat}{first first':List V}{hpf:α->Heap}{enc:τ->V}{R:α->τ->Option α}{p0 pE:α}(σ τi:Nat->Nat)(u:Heap)(E:Env)
  (hrd:K.rd=none) (hg:evl K S (.tmp gt)=.fn (.func f) first []) (hfo:fnOk K.P f=true) (ht:Nat.blt t K.N=true)
  (hsub:Subs (Ren k σ) first' first) (hhp:HpSub (Ren k σ) k σ S.hp (hpf p0)) (hE:EnvSub (Ren k σ) S.env E)
  (hI:IterG K.gl K.P f first' k hpf enc R p0 pE)
  (hround:∀l (p:α) (x:τ) (r:α),R p x=some r->∃S1:St,(∀old loc w m (h:GlOk K.gl m),AWP (rctx K.gl K.P K.N k l old loc w m h) assign (fun e T=>e=.normal/\T=S1) ⟨(t,enc x)::E,hpf p,k⟩)/\
   ∀old loc w m (h:GlOk K.gl m),AWP (rctx K.gl K.P K.N k l old loc w m h) body (fun e T=>e=.normal/\∃env',Ghost (rctx K.gl K.P K.N k l old loc w m h) T ⟨env',hpf r,k⟩) S1)
  (hto:toB k k S.nx S.nx σ τi (fun _=>false)=true) (hτ:injB k τi=true) (hu:HpTo (To k τi) τi (hpf pE) k 0 u)
  (kk:Q .normal ⟨S.env,u++S.hp,S.nx⟩):AWP K (.rangeFunc (.tmp gt) #[t] assign body) Q S:=by
 intro m β w a r
 have hv:=r.reads (.tmp gt)
 rw[hg] at hv
 obtain⟨fs,e1,e2,e3⟩:∃fs:Array Value,a.eval (.tmp gt)=.func (.func f) fs #[]/\first.length=fs.size/\∀(i:Nat) c v,first[i]? = some c->fs[i]? = some v->VRel m β c v:=by
  generalize a.eval (.tmp gt)=v at hv
  cases hv with
  |imm h=>cases h with|fn h1 h2 h3 h4=>exact⟨_,by rw[Array.size_eq_zero_iff.1 h2.symm],h1,fun i c v a b=>.imm (h3 i c v a b)⟩
  |fn h1 h2 h3 h4=>exact⟨_,by rw[Array.size_eq_zero_iff.1 h2.symm],h1,h3⟩
 have hinj:=injB_at hτ
 have hto':=toB_at hto
 have hσ:∀i,i<k->σ i=τi i:=fun i hi=>((hto' i hi).2.1 hi).1.symm
 refine wpIn_rangeFunc ?_
 intro fn _
 -- the two blocks that the loop lays
 obtain⟨w1,hw1⟩:∃w1,(w.alloc (.deferred (some []))).alloc (.loop { state:=.ready,pending:=none,fn,tmps:=a.tmps,params:=#[t],assign,body,defers:=w.heap.size })=w1:=⟨_,rfl⟩
 have hs1:w1.heap.size=w.heap.size+2:=by rw[<-hw1];simp
 have hold:∀b,b<w.heap.size->w1.heap[b]? = w.heap[b]?:=fun b hb=>by
  rw[<-hw1];show((w.heap.push _).push _)[b]? = _
  rw[Array.getElem?_push,if_neg (by simp;omega),Array.getElem?_push,if_neg (by omega)]
 have hD1:w1.heap[w.heap.size]? = some (.deferred (some [])):=by
  rw[<-hw1];show((w.heap.push _).push _)[w.heap.size]? = _
  rw[Array.getElem?_push,if_neg (by simp),Array.getElem?_push,if_pos rfl]
 have hl1:w1.heap[w.heap.size+1]? = some (.loop { state:=.ready,pending:=none,fn,tmps:=a.tmps,params:=#[t],assign,body,defers:=w.heap.size }):=by
  rw[<-hw1];show((w.heap.push _).push _)[w.heap.size+1]? = _
  rw[Array.getElem?_push,if_pos (by simp)]
 have hsame:Same w w1:=by rw[<-hw1];exact⟨rfl,rfl,rfl,trivial⟩
 have hnone:∀b,w.heap.size<=b->m b=none:=fun b hb=>by
  cases h:m b with
  |none=>rfl
  |some o=>have:=lt_of_some (r.imm b o h);omega
 -- the memory: the mark's block is kept
 let m1:Mem:=fun b=>if b=w.heap.size then some (.deferred (some [])) else m b
 have hm1o:∀b,b≠w.heap.size->m1 b=m b:=fun b hb=>by show(if _ then _ else _)=_;rw[if_neg hb]
 have hm1D:m1 w.heap.size=some (.deferred (some [])):=by show(if _ then _ else _)=_;rw[if_pos rfl]
 have hg1:Grew m m1 w w1:=by
  refine⟨fun b o h=>?_,fun b o h=>?_,fun b hb=>hm1o b (by omega),hold,by omega,hsame⟩
  ·rw[hm1o b (fun e=>by rw[hnone b (by omega)] at h;cases h)];exact h
  ·by_cases e:b=w.heap.size
   ·subst e;rw[hm1D] at h;cases h;exact hD1
   ·rw[hm1o b e] at h;rw[hold b (lt_of_some (r.imm b o h))];exact r.imm b o h
 have r1:Rel K m1 β w1 a S:=r.grow hg1
 have hlm:m1 (w.heap.size+1)=none:=by rw[hm1o _ (by omega)];exact hnone _ (by omega)
 -- a context in which the loop's record is kept
 let K1:Ctx:=⟨K.P,K.N,w1,m1,fun b=>(b<K.w0.heap.size/\K.old b)\/b=w.heap.size+1,K.pins,K.loc,K.gl,K.glok.mono r1.ext,K.rd⟩
 have own_lt:∀id b cap,hget S.hp id≠.dead->β id=some (some (b,cap))->b<w.heap.size:=fun id b cap hd hb=>live_lt hd hb (r.own id)
 have rK:Rel K1 m1 β w1 ⟨a.tmps,[]⟩ S:=by
  refine⟨r1.imm,Mem.le_refl _,fun _ _ _=>rfl,fun _ _ _=>rfl,Nat.le_refl _,⟨rfl,rfl,rfl,trivial⟩,r1.tn,Marks.nil,r1.env,r1.own,fun id b cap hd hb=>⟨(r1.priv id b cap hd hb).1,fun _ ho=>?_⟩,r1.inj,fun id x hd hx=>?_,r1.nx,r1.pin⟩
  ·rcases ho with ⟨h1,h2⟩|h
   ·exact(r1.priv id b cap hd hb).2 h1 h2
   ·have:=own_lt id b cap hd hb;omega
  ·have q:=r1.hid id x hd hx
   refine⟨q.lt,q.m,fun _ ho=>?_,q.ne,q.un⟩
   rcases ho with ⟨h1,h2⟩|h
   ·exact q.old h1 h2
   ·have:=(r.hid id x hd hx).lt;omega
 have H:=rK.hand (HpSub.get hhp) (fun i j hi hj e=>hinj i j hi hj (by rw[<-hσ i hi,<-hσ j hj];exact e))
 have hyR:Ren k σ m1 β m1 (β.sub k σ):=⟨rfl,fun id h=>by show(if _ then _ else _)=_;rw[if_pos h]⟩
 have hfs:VRels m1 (β.sub k σ) first' fs:=by
  refine⟨by rw[hsub.len];exact e2,fun i c v hi hv=>?_⟩
  have hlt:=(List.getElem?_eq_some_iff.1 hi).1
  have hlt':i<first.length:=by rw[<-hsub.len];exact hlt
  exact hsub.get i c _ hi (List.getElem?_eq_getElem hlt') _ _ _ _ _ hyR ((e3 i _ v (List.getElem?_eq_getElem hlt') hv).mono hg1.le (Locs.le_refl _))
 have hFl:Foreign (hpf p0) (β.sub k σ) (w.heap.size+1):=by
  intro id hd
  obtain⟨h1,h2⟩:=(HpSub.get hhp) id
  have hk:id<k:=h1.resolve_left hd
  have hd2:hget S.hp (σ id)≠.dead:=fun hdd=>by
   rw[hdd] at h2
   cases ho:hget (hpf p0) id with
   |dead=>exact hd ho
   |arr=>rw[ho] at h2;simp[ObSub] at h2
   |res=>rw[ho] at h2;simp[ObSub] at h2
   |map=>rw[ho] at h2;simp[ObSub] at h2
   |iter=>rw[ho] at h2;simp[ObSub] at h2
   |bld=>rw[ho] at h2;simp[ObSub] at h2
  refine⟨fun cap hb=>?_,fun hx=>?_⟩
  ·have e0:(β.sub k σ) id=β (σ id):=by show(if _ then _ else _)=_;rw[if_pos hk]
   rw[e0] at hb
   have:=own_lt (σ id) _ cap hd2 hb;omega
  ·have:=(r.hid (σ id) _ hd2 hx).lt;omega
 have hY:YOk K.P (w.heap.size+1) k (hpf p0) m1 (β.sub k σ) w1 hpf enc R:=
  yok_round (gl:=K.gl) (N:=K.N) (w.heap.size+1) w.heap.size fn t a.tmps E hl1 hlm hFl (K.glok.mono r1.ext) r1.tn ht
   (fun id hid=>by show(if _ then _ else _)=_;rw[if_neg (by omega)]) (fun q=>(EnvSub.get hE q) _ _ _ _ _ hyR (r1.env q)) (hround (w.heap.size+1))
 refine⟨w.heap.size+1,[{ target:=.collected w.heap.size,args:=#[] }],w1,{ target:=.fn (.func f) #[],args:=fs++#[.func (.yield (w.heap.size+1)) #[] #[]] },w1,f,fs++#[.func (.yield (w.heap.size+1)) #[] #[]],w1,?_,?_,fun _ _=>trivial,?_,fun h=>by simp[Fence.wide] at h,?_⟩
 ·show(Instr.enterLoop fn a.tmps #[t] assign body K.rd).run K.P w=_
  rw[hrd,<-hw1];exact run_enterLoop_outer _ _ _ _ _
 ·simp only[resolve,e1,Deferred.ofValue]
  simp[pure,Act.eval]
 ·simp only[invoke,Array.append_empty]
  exact run_enter hfo _
 ·refine callsIn_wide.2 ((hI m1 (β.sub k σ) w1 fs (w.heap.size+1) rK.imm (K.glok.mono r1.ext) hfs H hY).mono ?_)
  rintro e w2 ⟨v,m',β',rfl,ga⟩
  obtain⟨β2,r2,_⟩:=rK.back σ τi S.nx u (fun _=>false) (HpSub.get hhp) (fun _ h=>by simp at h) hto hτ (Nat.ble_eq_true_of_le (Nat.le_refl _)) (Nat.ble_eq_true_of_le (Nat.le_refl _)) (fun _ h=>by simp at h) hu ga
  have hlt1:w.heap.size+1<w1.heap.size:=by omega
  have hl2:w2.heap[w.heap.size+1]? = some (.loop { state:=.ready,pending:=none,fn,tmps:=a.tmps,params:=#[t],assign,body,defers:=w.heap.size }):=(r2.frame _ hlt1 (.inr rfl)).trans hl1
  have hm2:m' (w.heap.size+1)=none:=(r2.mold _ hlt1 (.inr rfl)).trans hlm
  refine⟨none,_,run_endLoop hl2 (by simp),?_⟩
  refine⟨rfl,⟨S.env,u++S.hp,S.nx⟩,m',β2,kk,?_⟩
  have hw0:K.w0.heap.size<=w1.heap.size:=Nat.le_trans r.size (by omega)
  have r3:Rel K m' β2 w2 { a with defers:={ target:=.collected w.heap.size,args:=#[] }::a.defers } ⟨S.env,u++S.hp,S.nx⟩:=by
   refine⟨r2.imm,Mem.le_trans r1.ext r2.ext,fun b hb ho=>(r2.mold b (Nat.lt_of_lt_of_le hb hw0) (.inl ⟨hb,ho⟩)).trans (r1.mold b hb ho),fun b hb ho=>(r2.frame b (Nat.lt_of_lt_of_le hb hw0) (.inl ⟨hb,ho⟩)).trans (r1.frame b hb ho),Nat.le_trans hw0 r2.size,r1.same.trans r2.same,r2.tn,?_,r2.env,r2.own,fun id b cap hd hb=>⟨(r2.priv id b cap hd hb).1,fun hb0 ho=>(r2.priv id b cap hd hb).2 (Nat.lt_of_lt_of_le hb0 hw0) (.inl ⟨hb0,ho⟩)⟩,r2.inj,fun id x hd hx=>?_,r2.nx,r2.pin⟩
   ·have hmk:=r.df
    refine⟨fun d hd=>?_,List.nodup_cons.2 ⟨fun hd=>?_,hmk.nd⟩,fun h=>by rw[hrd] at h;cases h⟩
    ·rcases List.mem_cons.1 hd with e|hd
     ·refine⟨w.heap.size,e,r.size,?_,r2.ext _ _ hm1D⟩
      cases h:K.m0 w.heap.size with
      |none=>rfl
      |some o=>have:=r.ext _ _ h;rw[hnone _ (Nat.le_refl _)] at this;cases this
     ·obtain⟨D,g1,g2,g3,g4⟩:=hmk.at' d hd
      exact⟨D,g1,g2,g3,r2.ext _ _ (hg1.le _ _ g4)⟩
    ·obtain⟨D,g1,g2,g3,g4⟩:=hmk.at' _ hd
     have hDw:=lt_of_some (r.imm _ _ g4)
     have:w.heap.size=D:=by
      have:=congrArg (fun d=>d.target) g1
      simpa using this
     omega
   ·have q:=r2.hid id x hd hx
    exact⟨q.lt,q.m,fun hb0 ho=>q.old (Nat.lt_of_lt_of_le hb0 hw0) (.inl ⟨hb0,ho⟩),q.ne,q.un⟩
  refine r3.touch (w.heap.size+1) _ hm2 (fun id b cap hd hb e=>(r2.priv id b cap hd hb).2 (by rw[e];exact hlt1) (.inr e)) (fun id hd hx=>(r2.hid id _ hd hx).old hlt1 (.inr rfl)) (fun h=>by have:=r.size;omega)
end
theorem und_dopt{τ:Type}{D E:τ->List V}(e:Nat)(hu:UndE D E):∀o:Option τ,Und (dopt e D o) (optr E o)
 |none=>.imm rfl
 |some x=>.pt (hu x).1 (fun j c c' h1 h2=>((hu x).2 j c c' h1 h2).1)
theorem keep_dopt{τ:Type}{D:τ->List V}(e:Nat):∀o:Option τ,Keep (dopt e D o)
 |none=>(Imm.con _).2
 |some x=>Keep.dpt _ _
theorem ObSub.holePT{κ τ:Type}[DecidableEq κ]{E:κ×Option τ->Value×V}[i:EMK E]{k0:κ}{k k' j i':Nat}{τi:Nat->Nat}{xs:List (κ×Option τ)}(hn:Nat.blt j k'=true)(hj:τi j=i'):
  ObSub (To k' τi) (.map (Go.Pv.holeP E (.ptr i' k 0 0) k0 xs)) (.map (Go.Pv.holeP E (.ptr j k 0 0) k0 xs)):=
 ObSub.holeP E k0 (CSub.sub (Sub.ptrT hn hj) rfl) (fun p=>CSub.same HyMC.h (Sub.kpT (i.h p))) xs
section
variable{K:Ctx}{Q:Post}{S S':St}
variable{ops:Array Oper}{rest:List Oper}{ty:TypeId}{pos:String}{after:Array Edge}{g:Option (Nat×Bool)}
end
section
variable{K:Ctx}{Q:Post}{S S':St}{s:List It}
variable{ops:Array Oper}{rest:List Oper}{ty:TypeId}{pos:String}{after:Array Edge}{g:Option (Nat×Bool)}
theorem aops_makeFuncF{d f:Nat}{first:Array Operand}(fs:List V)(hw:Wants ops S ⟨some d,.makeFunc (.func f) first #[],ty,pos,after,g⟩ true)
  (hc:first.toList.map (evl K S)=fs) (hN:Nat.blt d K.N=true) (kk:AOps K ops rest Q (S.put d (.fn (.func f) fs []))):
  AOps K ops (⟨some d,.makeFunc (.func f) first #[],ty,pos,after,g⟩::rest) Q S:=
 aops_val _ hw hN (fun m β w a r=>by
  refine⟨.func (.func f) (first.map a.eval) #[],by simp only[execOp];exact run_value (by simp[Instr.makeFunc,pure]),.fn (by simp[<-hc]) rfl (fun i c v h1 h2=>?_) (by simp)⟩
  rw[<-hc,List.getElem?_map] at h1
  rw[Array.getElem?_map] at h2
  cases hx:first[i]? with
  |none=>simp[hx] at h2
  |some x=>
   simp[hx] at h1 h2
   subst h1;subst h2
   exact r.reads x) kk
theorem rfC{c:Code}(h:AWP K c (post K Q s) S):WG K Q (.c c::s) S:=h
theorem wP(h:post K Q s .normal S):WG K Q s S:=h
end
theorem deep_optr{τ:Type}{enc:τ->List V}:∀o:Option τ,(optr enc o).deep=false
 |none=>rfl
 |some _=>rfl
end Go.Pv
