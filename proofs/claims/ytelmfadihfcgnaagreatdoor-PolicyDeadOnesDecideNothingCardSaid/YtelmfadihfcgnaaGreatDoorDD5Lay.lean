/- Part of the proof: EW, L9T, C9Sh, L9X, L9E, D5Sh, D5Of, C9Lay, D5Lay. -/
import Derived.Test.YtelmfadihfcgnaaGreatDoorDEC
import Derived.Test.YtelmfadihfcgnaaGreatDoorProg
import Derived.KernelRfl
import Derived.Shelf.Small.Strs
import Derived.Shelf.Strconv.Atoi
import Derived.Shelf.Strconv.Itoa0
import Derived.Shelf.Strconv.Itoa1
import Derived.Shelf.LaysM
import Derived.Shelf.Strconv.Itoa2
import Derived.Shelf.Strconv.Itoa3
import Derived.Shelf.Strings.Search1
import Derived.Shelf.Sort.Plain
import Derived.Ground.Names2Prog
import Derived.Shelf.Slices.CompactI
import Derived.Shelf.Slices.CompactS
import Derived.Shelf.Slices.SearchI
import Derived.Shelf.Slices.Delete
import Derived.Shelf.Slices.In.SortNone
import Derived.Shelf.Slices.Empties
import Derived.Ground.SlgnProg
import Derived.Shelf.SlicesE.Delete
import Derived.Ground.SlsfProg
import Derived.Shelf.SlSortCmp.WholeK
import Derived.Shelf.SlSortCmp.NoneTotal
import Derived.Lib.SmallJoins
import Derived.Test.YtelmfadihfcgnaaGreatDoorDD5M
import Derived.Test.YtelmfadihfcgnaaGreatDoorDD5PB
import Derived.Ground.GgzProg
import Derived.Shelf.SlIter.Sorted
namespace Go.Pv
open Go
set_option linter.unusedVariables false
section
variable{K:Ctx}{Q:Post}{S S':St}{ops:Array Oper}{rest:List Oper}{t:TT}
theorem aops_idcall{o:Oper}{d:Nat}{f:FuncId}{avs:List V}{k':Nat}{hp':Heap}{dv:V}(hw:Wants ops S o true)(hd:o.dst=some d)(hN:Nat.blt d K.N=true)
  (hrun:∀m β w a,Rel K m β w a S->∃vs:Array Value,(execOp a.eval o).run K.P w=.ok (.enter f vs) w/\VRels m β avs vs)
  (hc:MutG K.gl K.P f avs S.nx S.hp dv k' hp') (kk:AOps K ops rest Q ⟨(d,dv)::S.env,hp',k'⟩):AOps K ops (o::rest) Q S:=by
 intro m β w a r
 unfold wpListIn
 rw[if_pos (hw.at r)]
 obtain⟨vs,h1,h2⟩:=hrun m β w a r
 refine op_in (.inr (nd_run h1 (fun d e=>by cases e))) ?_
 unfold Oper.wp
 rw[h1]
 refine(hc m β w vs r.imm (K.glok.mono r.ext) h2 r.own (fun id b cap hl hb=>(r.priv id b cap hl hb).1) r.inj (fun id x hl hx=>let q:=r.hid id x hl hx;⟨q.lt,q.m,q.ne,q.un⟩) r.nx).mono ?_
 rintro e w' ⟨v,m',β',rfl,hv,g⟩
 simp only[hd]
 have hle:S.nx<=k':=by
  cases hn:S.nx with
  |zero=>exact Nat.zero_le _
  |succ q=>have:=(g.pin q (by omega)).1;omega
 have hβle:β.le β':=by
  intro id l hl
  by_cases h:id<S.nx
  ·rw[(g.pin id h).2];exact hl
  ·rw[r.nx id (by omega)] at hl;simp at hl
 have hold:∀b,b<K.w0.heap.size->K.old b->b<w.heap.size/\Foreign S.hp β b:=fun b hb ho=>
  ⟨Nat.lt_of_lt_of_le hb r.size,fun i hl=>⟨fun c hb'=>(r.priv _ _ _ hl hb').2 hb ho,fun hx=>(r.hid _ _ hl hx).old hb ho⟩⟩
 have r2:Rel K m' β' w' a ⟨S.env,hp',k'⟩:=by
  constructor
  ·exact g.imm
  ·exact Mem.le_trans r.ext g.le
  ·intro b hb ho
   obtain⟨q1,q2⟩:=hold b hb ho
   rw[(g.old b q1 q2).1]
   exact r.mold b hb ho
  ·intro b hb ho
   obtain⟨q1,q2⟩:=hold b hb ho
   rw[(g.old b q1 q2).2]
   exact r.frame b hb ho
  ·exact Nat.le_trans r.size g.size
  ·exact r.same.trans g.same
  ·exact r.tn
  ·exact r.df.mono g.le
  ·exact fun t=>(r.env t).mono g.le hβle
  ·exact g.own
  ·intro id b cap hl hb
   obtain⟨q1,q2⟩:=g.priv id b cap hl hb
   exact⟨q1,fun hb0 ho=>q2 (hold b hb0 ho).1 (hold b hb0 ho).2⟩
  ·exact g.inj
  ·intro id x hl hx
   obtain⟨q1,q2,q3,q4,q5⟩:=g.hid id x hl hx
   exact⟨q1,q2,fun hb0 ho=>q3 (hold x hb0 ho).1 (hold x hb0 ho).2,q4,q5⟩
  ·exact g.nx
  ·intro q hq
   obtain⟨p1,p2⟩:=r.pin q hq
   have:=g.pin q p1
   exact⟨this.1,this.2.trans p2⟩
 exact kk m' β' w' _ (r2.put hN hv)
def rsvM(t:TT)(e:Env)(hp:Heap):ResultVar->Option V
 | .tmp x=>gtC e x
 | .cell x T=>(match gtC e x with
  |some (.ptr id k i o)=>(match hgC hp id with
   |some (.arr _ k2 rows)=>(match Nat.beq k k2 with|true=>(match lgt rows i with|some row=>ldV t T row o|none=>none)|false=>none)
   |_=>none)
  |_=>none)
theorem rsvM_ok(ht:TTok K.P t){rv:ResultVar}{v:V}(h:rsvM t S.env S.hp rv=some v):ResOneM K.P S rv v:=by
 cases rv with
 |tmp x=>exact .tmp (gtC_ok h)
 |cell x T=>
  simp only[rsvM] at h
  split at h
  ·rename_i id k i o hx
   split at h
   ·rename_i k2 rows ho
    split at h
    ·rename_i hk
     have hk:=Nat.eq_of_beq_eq_true hk
     subst hk
     split at h
     ·rename_i row hr
      cases hn:ask t T TF.qA with
      |some n=>
       obtain⟨cs,rfl,hc,hd⟩:=ldV_agg hn h
       exact .agg (askA ht hn) (gtC_ok hx) (hgC_ok ho) (lgt_ok hr) (cut_ok hc).1 (cut_ok hc).2 hd
      |none=>
       obtain⟨hq,hc,hd⟩:=ldV_cell hn h
       exact .cell (askC ht hq) (gtC_ok hx) (hgC_ok ho) (lgt_ok hr) (lgt_ok hc) hd
     ·simp at h
    ·simp at h
   ·simp at h
  ·simp at h
def rsL(t:TT)(e:Env)(hp:Heap):List ResultVar->Option (List V)
 |[]=>some []
 |r::l=>(match rsvM t e hp r with|some v=>(match rsL t e hp l with|some q=>some (v::q)|none=>none)|none=>none)
theorem rsL_ok(ht:TTok K.P t):∀{l:List ResultVar} {ds:List V},rsL t S.env S.hp l=some ds->ResL K.P S l ds
 |[],ds,h=>by simp[rsL] at h;subst h;exact .nil
 |r::l,ds,h=>by
  simp only[rsL] at h
  split at h
  ·rename_i v hv
   split at h
   ·rename_i q hq;simp at h;subst h;exact .cons (rsvM_ok ht hv) (rsL_ok ht hq)
   ·simp at h
  ·simp at h
abbrev FT:=List (Nat×Func)
def FTok(P:Program)(ft:FT):Prop:=∀p,p∈ft->P.funcs[p.1]? = some p.2/\fnOk P p.1=true
def mkFT(P:Program)(l:List Nat):FT:=l.filterMap fun f=>match P.funcs[f]? with|some g=>some (f,g)|none=>none
theorem ft_ok{P:Program}{ft:FT}(l:List Nat)(h:ft=mkFT P l)(hB:l.all (fnOk P)=true):FTok P ft:=fun p hp=>by
 rw[h] at hp
 obtain⟨f,hf,e⟩:=List.mem_filterMap.1 hp
 split at e
 ·rename_i g hg
  cases Option.some.inj e
  exact⟨hg,List.all_eq_true.1 hB f hf⟩
 ·cases e
abbrev XT:=List (Nat×(List V->Option V))
def XTok(gl:Gl)(P:Program)(xt:XT):Prop:=∀p,p∈xt->fnOk P p.1=true/\∀avs v,p.2 avs=some v->PureG gl P p.1 avs v
def opOf(t:TT)(N:Nat)(ops:Array Oper)(e:Env)(o:Oper):Option (Nat×Nat×List V):=
 match dsC N ops e o with
 |some d=>(match clX t e o.op with|some (f,avs)=>some (d,f,avs)|none=>none)
 |none=>none
def nAl(t:TT):List Oper->Nat
 |[]=>0
 |o::l=>(match o.op with | .alloc _=>nAl t l+1 | .box _ _=>nAl t l+1 | .makeMap _ _=>nAl t l+1 | .buildSlice _ _ _=>nAl t l+1 | .makeSlice _ _ _=>nAl t l+1 | .call c=>(match c.callee with | .value x=>(match x with | .func f=>(match ask t f TF.qR with|some n=>nAl t l+n|none=>nAl t l+12)|_=>nAl t l+12) | .invoke _ _=>nAl t l+12 | .builtin .append=>nAl t l+2|_=>nAl t l)|_=>nAl t l)
def evR(ft:FT)(xt:XT)(t:TT)(mt:List MT):Nat->Nat->List It->St->Option St
 |0,_,_,_=>none
 |_+1,_,[],S=>some S
 |n+1,N,x::s,⟨e,hp,nx⟩=>
  match x with
  | .c .ret=>some ⟨e,hp,nx⟩
  | .c (.loop c)=>evR ft xt t mt n N (.c c::.c (.loop c)::s) ⟨e,hp,nx⟩
  | .c (.region _ ops true)=>
   (match drR (fun f avs=>match lk xt f with
     |some g=>g avs
     |none=>(match lk ft f with
      |some fn=>(match fn.body with
       |some c=>(match Nat.ble avs.length fn.ntmps,finO 0 fn.results.toList (evR ft xt t mt n fn.ntmps [.c c] ⟨argEnv 0 avs,[],0⟩) with
        |true,some ⟨e1,hp1,_⟩=>(match rsL t e1 hp1 fn.results.toList with
         |some ds=>(match immB (resV ds) with|true=>some (resV ds)|false=>none)
         |none=>none)
        |_,_=>none)
       |none=>none)
      |none=>none)) (fun f avs hp k=>match lk ft f with
      |some fn=>(match fn.body with
       |some c=>(match Nat.ble avs.length fn.ntmps,finO k fn.results.toList (evR ft xt t mt n fn.ntmps [.c c] ⟨argEnv 0 avs,hp,k⟩) with
        |true,some ⟨e1,hp1,k1⟩=>(match rsL t e1 hp1 fn.results.toList with
         |some ds=>some (resV ds,hp1,k1)
         |none=>none)
        |_,_=>none)
       |none=>none)
      |none=>none) t mt N ops ops.toList nx e (resH nx (nAl t ops.toList) hp) (nx+nAl t ops.toList) with
   |some (ds,e',hp')=>(match anyOk ops.toList ds with|true=>evR ft xt t mt n N s ⟨e',dropR nx (nAl t ops.toList) hp',nx+nAl t ops.toList⟩|false=>none)
   |none=>none)
  | .o ops (o::l)=>
   (match one t N ops o ⟨e,hp,nx⟩ with
   |some ⟨e',hp',nx'⟩=>evR ft xt t mt n N (.o ops l::s) ⟨tidyE e',tidyH hp',nx'⟩
   |none=>(match opOf t N ops e o with
    |some (d,f,avs)=>(match lk xt f with
     |some g=>(match g avs with|some v=>(match allNB immB avs with|true=>evR ft xt t mt n N (.o ops l::s) ⟨putE d v e,hp,nx⟩|false=>none)|none=>none)
     |none=>(match lk ft f with
      |some fn=>(match fn.body with
       |some c=>(match Nat.ble avs.length fn.ntmps,finO nx fn.results.toList (evR ft xt t mt n fn.ntmps [.c c] ⟨argEnv 0 avs,hp,nx⟩) with
        |true,some ⟨e1,hp1,nx1⟩=>(match rsL t e1 hp1 fn.results.toList with
         |some ds=>evR ft xt t mt n N (.o ops l::s) ⟨putE d (resV ds) e,hp1,nx1⟩
         |none=>none)
        |_,_=>none)
       |none=>none)
      |none=>none))
    |none=>(match dsC N ops e o with
     |some d=>(match oneY t mt e hp nx o.op with|some (v,u,q)=>evR ft xt t mt n N (.o ops l::s) ⟨putE d v e,putsH u hp,nx+q⟩|none=>(match o.guard,apN t d e hp nx o.op with|none,some (ue,uh)=>evR ft xt t mt n N (.o ops l::s) ⟨putsE ue e,putsH uh hp,nx+2⟩|_,_=>none))
     |none=>(match o.dst,wt ops e o.guard with
      |none,some true=>(match wrY t mt e hp o.op with|some (id,ob)=>evR ft xt t mt n N (.o ops l::s) ⟨e,putH id ob hp,nx⟩|none=>none)
      |_,_=>none))))
  |x=>(match stp t N (x::s) ⟨e,hp,nx⟩ with|some (s',S')=>evR ft xt t mt n N s' S'|none=>none)
theorem ghost_putE{d:Nat}{v:V}{e:Env}{hp:Heap}{nx:Nat}:Ghost K ⟨(d,v)::e,hp,nx⟩ ⟨putE d v e,hp,nx⟩:=fun m β _ _ r=>⟨m,β,r.congr (get_putE d v e) (fun _=>rfl) rfl⟩
theorem ghost_putH{id:Nat}{ob:Ob}{e:Env}{hp:Heap}{nx:Nat}:Ghost K ⟨e,(id,ob)::hp,nx⟩ ⟨e,putH id ob hp,nx⟩:=fun m β _ _ r=>⟨m,β,r.congr (fun _=>rfl) (hget_putH id ob hp) rfl⟩
theorem ghost_puts{d:Nat}{v:V}{e:Env}{u hp:Heap}{nx:Nat}:Ghost K ⟨(d,v)::e,u++hp,nx⟩ ⟨putE d v e,putsH u hp,nx⟩:=fun m β _ _ r=>⟨m,β,r.congr (get_putE d v e) (hget_putsH u hp) rfl⟩
theorem ghost_puts2{ue e:Env}{u hp:Heap}{nx:Nat}:Ghost K ⟨ue++e,u++hp,nx⟩ ⟨putsE ue e,putsH u hp,nx⟩:=fun m β _ _ r=>⟨m,β,r.congr (get_putsE ue e) (hget_putsH u hp) rfl⟩
theorem ghost_trans{S1 S2 S3:St}(h:Ghost K S1 S2)(h':Ghost K S2 S3):Ghost K S1 S3:=Ghost.trans h h'
theorem ghost_refl:Ghost K S S:=fun m β _ _ r=>⟨m,β,r⟩
theorem wg_b{i:Nat}{s:List It}(h:WG K Q s S):WG K Q (.b i::s) S:=h
theorem evR_ok{gl:Gl}{P:Program}{ft:FT}{xt:XT}{mt:List MT}(hft:FTok P ft)(hxt:XTok gl P xt)(ht:TTok P t)(hmt:MTok P mt)(hm:P.follows .mixedOrders=true):
  ∀(n:Nat) (K:Ctx),K.P=P->K.gl=gl->∀(s:List It) (S S':St) (Q:Post),evR ft xt t mt n K.N s S=some S'->(∀S0,Ghost K S0 S'->∀e,(e=.ret\/e=.normal)->Q e S0)->∀S0,Ghost K S0 S->WG K Q s S0:=by
 intro n
 induction n with
 |zero=>intro K hP hgl s S S' Q h _;simp[evR] at h
 |succ n ih=>
  -- a call by its text
  have call:∀(f:Nat) (fn:Func) (c:Code) (avs:List V) (hp hp1:Heap) (nx nx1:Nat) (e1:Env) (ds:List V),P.funcs[f]? = some fn->fn.body=some c->Nat.ble avs.length fn.ntmps=true->
    finO nx fn.results.toList (evR ft xt t mt n fn.ntmps [.c c] ⟨argEnv 0 avs,hp,nx⟩)=some ⟨e1,hp1,nx1⟩->rsL t e1 hp1 fn.results.toList=some ds->MutG gl P f avs nx hp (resV ds) nx1 hp1:=by
   intro f fn c avs hp hp1 nx nx1 e1 ds q1 hb hle hrun hds
   refine mut_enter (l:=fn.results.toList) q1 hb rfl (by simp) hle _ rfl (fun w0 m0 β0 hg=>?_)
   obtain⟨S9,hr9,hf9⟩:=finO_some hrun
   refine ih (mctx gl P fn.ntmps nx hp w0 m0 β0 hg) rfl rfl [.c c] _ _ _ hr9 ?_ _ ghost_refl
   exact fun S0 hg e he=>⟨he,e1,Ghost.trans hg (by rw[<-hf9];exact fin_ok rfl),rsL_ok (S:=⟨e1,hp1,nx1⟩) ht hds⟩
  intro K hP hgl s S S' Q h hQ S0 hg0
  cases s with
  |nil=>simp only[evR,Option.some.injEq] at h;subst h;exact hQ _ hg0 _ (.inr rfl)
  |cons x s=>
   obtain⟨e,hp,nx⟩:=S
   have ha:Ag e ⟨e,hp,nx⟩:=agE (S:=⟨e,hp,nx⟩)
   have htK:TTok K.P t:=by rw[hP];exact ht
   have hmK:MTok K.P mt:=by rw[hP];exact hmt
   simp only[evR] at h
   split at h
   ·simp only[Option.some.injEq] at h;subst h;exact awp_ret (post_ret (hQ _ hg0 _ (.inl rfl)))
   ·exact awp_ghost hg0 (awp_loop (ih K hP hgl _ _ _ _ h hQ _ ghost_refl))
   ·split at h
    ·rename_i ds e' hp' hdr
     split at h
     ·rename_i hok
      refine awp_ghost hg0 (awp_dr ?_ ?_ htK hmK (by rw[hP];exact hm) hdr hok (fun S1 hg1=>ih K hP hgl _ _ _ _ h hQ _ (ghost_trans hg1 (ghost_less (dropR_at _ _ _)))))
      ·intro f avs hp k v hp' k' hv
       split at hv
       ·rename_i fn hfn
        obtain⟨q1,q2⟩:=hft _ (lk_mem hfn)
        split at hv
        ·rename_i c hb
         split at hv
         ·rename_i e1 hp1 nx1 hle hrun
          split at hv
          ·rename_i ds hds
           simp only[Option.some.injEq,Prod.mk.injEq] at hv;obtain⟨rfl,rfl,rfl⟩:=hv
           exact⟨by rw[hP];exact q2,by rw[hP,hgl];exact call f fn c avs hp hp1 k nx1 e1 ds q1 hb hle hrun hds⟩
          ·simp at hv
         ·simp at hv
        ·simp at hv
       ·simp at hv
      intro f avs v hv
      split at hv
      ·rename_i g hg
       obtain⟨q1,q2⟩:=hxt _ (lk_mem hg)
       exact⟨by rw[hP];exact q1,by rw[hP,hgl];exact q2 _ _ hv⟩
      ·split at hv
       ·rename_i fn hfn
        obtain⟨q1,q2⟩:=hft _ (lk_mem hfn)
        split at hv
        ·rename_i c hb
         split at hv
         ·rename_i e1 hp1 nx1 hle hrun
          split at hv
          ·rename_i ds hds
           split at hv
           ·rename_i him
            simp only[Option.some.injEq] at hv;subst hv
            exact⟨by rw[hP];exact q2,by rw[hP,hgl];exact mut_pure (call f fn c avs [] hp1 0 _ e1 ds q1 hb hle hrun hds) him⟩
           ·simp at hv
          ·simp at hv
         ·simp at hv
        ·simp at hv
       ·simp at hv
     ·simp at h
    ·simp at h
   ·rename_i ops o l
    refine aops_ghost hg0 ?_
    split at h
    ·rename_i e' hp' nx' h1
     exact one_ok htK h1 (ih K hP hgl _ _ _ _ h hQ _ ghost_tidy)
    ·split at h
     ·rename_i d f avs hop
      unfold opOf at hop
      split at hop
      ·rename_i d' hd
       split at hop
       ·rename_i hc
        simp only[Option.some.injEq,Prod.mk.injEq] at hop
        obtain⟨rfl,rfl,rfl⟩:=hop
        obtain⟨w1,w2,w3⟩:=dsC_ok ha hd
        split at h
        ·rename_i g hg
         split at h
         ·rename_i v hv
          obtain⟨q1,q2⟩:=hxt _ (lk_mem hg)
          split at h
          ·rename_i him
           exact aops_calls w1 w2 w3 (fun m β w a r=>by
            obtain⟨vs,e1,e2⟩:=clX_run0 htK ha hc (by rw[hP];exact q1) m β w a r
            exact⟨vs,e1,⟨e2.len,fun i c v a b=>immN_ok (allN_ok him c (List.mem_of_getElem? a)) (e2.at' i c v a b)⟩⟩) (by rw[hP,hgl];exact q2 _ _ hv) (ih K hP hgl _ _ _ _ h hQ _ ghost_putE)
          ·simp at h
         ·simp at h
        ·split at h
         ·rename_i fn hfn
          obtain⟨q1,q2⟩:=hft _ (lk_mem hfn)
          split at h
          ·rename_i c hb
           split at h
           ·rename_i e1 hp1 nx1 hle hrun
            split at h
            ·rename_i ds hds
             exact aops_idcall w1 w2 w3 (clX_run0 htK ha hc (by rw[hP];exact q2)) (by rw[hP,hgl];exact call _ _ _ _ _ _ _ _ _ _ q1 hb hle hrun hds) (ih K hP hgl _ _ _ _ h hQ _ ghost_putE)
            ·simp at h
           ·simp at h
          ·simp at h
         ·simp at h
       ·simp at hop
      ·simp at hop
     ·split at h
      ·rename_i d hd
       obtain⟨w1,w2,w3⟩:=dsC_ok ha hd
       split at h
       ·rename_i v u q h1
        obtain⟨dst,op,ty,pos,after,g⟩:=o
        simp only at w2
        subst w2
        exact oneY_ok htK hmK ha (agH (S:=⟨e,hp,nx⟩)) rfl h1 w1 w3 (ih K hP hgl _ _ _ _ h hQ _ ghost_puts)
       ·split at h
        ·rename_i hgd h1
         obtain⟨dst,op,ty,pos,after,g⟩:=o
         simp only at w2
         subst w2
         exact apN_ok htK h1 hgd w3 (ih K hP hgl _ _ _ _ h hQ _ ghost_puts2)
        ·simp at h
      ·split at h
       ·rename_i hdst hwt
        have hw:=wt_ok ha hwt
        split at h
        ·rename_i id ob h1
         obtain⟨dst,op,ty,pos,after,g⟩:=o
         simp only at hdst
         subst hdst
         exact wrY_ok htK hmK ha (agH (S:=⟨e,hp,nx⟩)) h1 hw (ih K hP hgl _ _ _ _ h hQ _ ghost_putH)
        ·simp at h
       ·simp at h
   ·rename_i x4 n1 n2 n3 n4
    split at h
    ·rename_i s' S2 h1
     have k:=stp_ok (Q:=Q) htK h1 (ih K hP hgl _ _ _ _ h hQ _ ghost_refl)
     cases x with
     |c x=>exact awp_ghost hg0 k
     |o ops l=>exact aops_ghost hg0 k
     |b i=>simp only[stp,Option.some.injEq,Prod.mk.injEq] at h1;obtain⟨rfl,rfl⟩:=h1;exact wg_b (ih K hP hgl _ _ _ _ h hQ _ hg0)
     |j J=>simp[stp] at h1
    ·simp at h
def evF(ft:FT)(xt:XT)(t:TT)(mt:List MT)(n f:Nat)(avs:List V):Option V:=
 match lk ft f with
 |some fn=>(match fn.body with
  |some c=>(match Nat.ble avs.length fn.ntmps,evR ft xt t mt n fn.ntmps [.c c] ⟨argEnv 0 avs,[],0⟩ with
   |true,some ⟨e1,hp1,_⟩=>(match rsL t e1 hp1 fn.results.toList with
    |some ds=>(match immB (resV ds) with|true=>some (resV ds)|false=>none)
    |none=>none)
   |_,_=>none)
  |none=>none)
 |none=>none
theorem evF_ok{gl:Gl}{P:Program}{ft:FT}{xt:XT}{mt:List MT}(hft:FTok P ft)(hxt:XTok gl P xt)(ht:TTok P t)(hmt:MTok P mt)(hm:P.follows .mixedOrders=true){n f:Nat}{avs:List V}{v:V}
  (h:evF ft xt t mt n f avs=some v):PureG gl P f avs v:=by
 unfold evF at h
 split at h
 ·rename_i fn hfn
  obtain⟨q1,q2⟩:=hft _ (lk_mem hfn)
  split at h
  ·rename_i c hb
   split at h
   ·rename_i e1 hp1 nx1 hle hrun
    split at h
    ·rename_i ds hds
     split at h
     ·rename_i him
      simp only[Option.some.injEq] at h;subst h
      refine mut_pure (k':=nx1) (hp':=hp1) ?_ him
      refine mut_enter (l:=fn.results.toList) q1 hb rfl (by simp) hle _ rfl (fun w0 m0 β0 hg=>?_)
      refine evR_ok hft hxt ht hmt hm n (mctx gl P fn.ntmps 0 [] w0 m0 β0 hg) rfl rfl [.c c] _ _ _ hrun ?_ _ ghost_refl
      exact fun S0 hg e he=>⟨he,e1,hg,rsL_ok (S:=⟨e1,hp1,nx1⟩) ht hds⟩
     ·simp at h
    ·simp at h
   ·simp at h
  ·simp at h
 ·simp at h
end
end Go.Pv
namespace Go.Proofs.YtelmfadihfcgnaaGreatDoor
open Go Go.Pv
set_option maxRecDepth 100000
noncomputable def evft:FT:=[(11,Tryz.f11),(19,Tryz.f19),(30,Tryz.f30),(31,Tryz.f31),(32,Tryz.f32),(42,Tryz.f42),(43,Tryz.f43),(44,Tryz.f44),(50,Tryz.f50),(54,Tryz.f54),(60,Tryz.f60),(61,Tryz.f61),(62,Tryz.f62),(72,Tryz.f72),(74,Tryz.f74),(86,Tryz.f86),(87,Tryz.f87),(88,Tryz.f88),(100,Tryz.f100),(101,Tryz.f101),(102,Tryz.f102),(103,Tryz.f103),(104,Tryz.f104),(105,Tryz.f105),(106,Tryz.f106),(113,Tryz.f113),(116,Tryz.f116),(117,Tryz.f117),(118,Tryz.f118),(121,Tryz.f121),(128,Tryz.f128),(129,Tryz.f129),(130,Tryz.f130),(135,Tryz.f135),(136,Tryz.f136),(137,Tryz.f137),(138,Tryz.f138),(139,Tryz.f139),(140,Tryz.f140),(141,Tryz.f141),(142,Tryz.f142),(143,Tryz.f143),(144,Tryz.f144),(149,Tryz.f149),(150,Tryz.f150),(151,Tryz.f151),(162,Tryz.f162),(163,Tryz.f163),(164,Tryz.f164),(165,Tryz.f165),(190,Tryz.f190),(191,Tryz.f191),(192,Tryz.f192),(193,Tryz.f193),(194,Tryz.f194),(195,Tryz.f195),(196,Tryz.f196),(197,Tryz.f197),(207,Tryz.f207),(214,Tryz.f214),(224,Tryz.f224),(225,Tryz.f225),(226,Tryz.f226),(227,Tryz.f227),(234,Tryz.f234),(237,Tryz.f237),(239,Tryz.f239),(240,Tryz.f240),(241,Tryz.f241),(242,Tryz.f242),(243,Tryz.f243),(244,Tryz.f244),(245,Tryz.f245),(247,Tryz.f247),(248,Tryz.f248),(249,Tryz.f249),(250,Tryz.f250),(251,Tryz.f251),(252,Tryz.f252),(253,Tryz.f253),(254,Tryz.f254),(255,Tryz.f255),(256,Tryz.f256),(257,Tryz.f257),(258,Tryz.f258),(259,Tryz.f259),(260,Tryz.f260),(261,Tryz.f261),(262,Tryz.f262),(263,Tryz.f263),(264,Tryz.f264),(265,Tryz.f265),(281,Tryz.f281),(282,Tryz.f282),(283,Tryz.f283),(284,Tryz.f284),(285,Tryz.f285),(286,Tryz.f286),(287,Tryz.f287),(288,Tryz.f288),(289,Tryz.f289),(290,Tryz.f290),(291,Tryz.f291)]
theorem evft_ok:FTok Tryz.prog evft:=ft_ok [11,19,30,31,32,42,43,44,50,54,60,61,62,72,74,86,87,88,100,101,102,103,104,105,106,113,116,117,118,121,128,129,130,135,136,137,138,139,140,141,142,143,144,149,150,151,162,163,164,165,190,191,192,193,194,195,196,197,207,214,224,225,226,227,234,237,239,240,241,242,243,244,245,247,248,249,250,251,252,253,254,255,256,257,258,259,260,261,262,263,264,265,281,282,283,284,285,286,287,288,289,290,291] (by kernel_rfl) (by kernel_rfl)
def evtt:TT:=[(2,[.I .i64,.U]),(3,[.C,.S 1,.Z 1 [.int .i64 0],.I .i64,.U]),(4,[.S 1,.C]),(5,[.Z 1 [.int .u8 0],.I .u8,.U,.C,.S 1]),(9,[.Str,.C,.S 1,.Z 1 [.string ⟨#[]⟩],.U,.Cn]),(22,[.C,.El 9 1 16,.Sn,.Sl 1,.S 1]),(23,[.C,.Sn,.Sl 6,.El 25 6 88,.S 1]),(25,[.S 6,.A 6,.F 5 5,.Z 6 [.int .i64 0,.string ⟨#[]⟩,.slice none 0 0,.int .i64 0,.int .i64 0,.slice none 0 0],.F 0 0,.F 1 1,.F 2 2,.F 3 3,.F 4 4,.Pl [(0,1),(1,1),(2,1),(3,1),(4,1),(5,1)]]),(26,[.C,.Sn,.Sl 2]),(27,[.El 41 2 24,.C,.Sn,.Sl 2]),(29,[.Z 4 [.string ⟨#[]⟩,.string ⟨#[]⟩,.slice none 0 0,.slice none 0 0],.Pl [(0,1),(1,1),(2,1),(3,1)],.S 4,.F 0 0,.F 1 1,.F 2 2,.F 3 3,.A 4]),(30,[.C,.S 1]),(39,[.A 2,.Z 2 [.string ⟨#[]⟩,.string ⟨#[]⟩],.S 2,.F 0 0,.F 1 1]),(41,[.Z 2 [.string ⟨#[]⟩,.int .i64 0],.Pl [(0,1),(1,1)],.A 2,.S 2,.F 0 0,.F 1 1]),(46,[.C,.El 58 9 128,.Sn,.S 1,.Sl 9]),(47,[.C,.El 185 6 72,.Sn,.S 1,.Sl 6]),(49,[.Z 2 [.slice none 0 0,.slice none 0 0],.S 2,.A 2,.Pl [(0,1),(1,1)],.F 0 0,.F 1 1]),(50,[.El 29 4 80,.Sn,.Sl 4]),(51,[.C,.Sn,.Sl 1,.El 3 1 8,.S 1]),(54,[.Sn,.Sl 4,.El 61 4 32]),(58,[.Z 9 [.string ⟨#[]⟩,.string ⟨#[]⟩,.int .i64 0,.string ⟨#[]⟩,.slice none 0 0,.int .i64 0,.int .i64 0,.slice none 0 0,.int .i64 0],.A 9,.S 9,.F 0 0,.F 1 1,.F 2 2,.F 3 8,.Pl [(0,1),(1,1),(2,6),(8,1)]]),(61,[.F 3 3,.Z 4 [.int .i64 0,.int .i64 0,.int .i64 0,.int .i64 0],.Pl [(0,1),(1,1),(2,1),(3,1)],.S 4,.F 2 2,.A 4]),(75,[.Z 1 [.nilIface],.C]),(91,[.C]),(92,[.C,.Mn]),(94,[.A 2,.Z 2 [.map none,.map none],.Pl [(0,1),(1,1)],.S 2,.F 0 0,.F 1 1]),(98,[.Z 4 [.bool false,.bool false,.string ⟨#[]⟩,.int .i64 0],.S 4,.F 0 0,.F 2 2,.A 4,.F 1 1,.F 3 3]),(109,[.El 75 1 16,.Sn,.Sl 1,.C]),(115,[.Sn,.Sl 3,.El 197 3 40]),(147,[.Z 2 [.string ⟨#[]⟩,.slice none 0 0],.Pl [(0,1),(1,1)],.Cn,.S 2,.F 0 0,.F 1 1,.M "provender/policy.holds" 282]),(148,[.Z 2 [.string ⟨#[]⟩,.slice none 0 0],.Pl [(0,1),(1,1)],.Cn,.S 2,.F 0 0,.F 1 1,.M "provender/policy.holds" 283]),(150,[.Z 1 [.string ⟨#[]⟩],.Pl [(0,1)],.Cn,.S 1,.F 0 0,.M "provender/policy.holds" 285]),(152,[.Z 3 [.string ⟨#[]⟩,.int .i64 0,.int .i64 0],.Pl [(0,1),(1,1),(2,1)],.Cn,.S 3,.F 0 0,.F 1 1,.F 2 2,.M "provender/policy.holds" 286]),(154,[.Z 1 [.nilIface],.Pl [(0,1)],.Cn,.S 1,.F 0 0,.M "provender/policy.holds" 288]),(156,[.Z 1 [.slice none 0 0],.Pl [(0,1)],.Cn,.S 1,.F 0 0,.M "provender/policy.holds" 289]),(157,[.Z 1 [.slice none 0 0],.Pl [(0,1)],.Cn,.S 1,.F 0 0,.M "provender/policy.holds" 290]),(159,[.Z 0 [],.Pl [],.Cn,.S 0,.M "provender/policy.holds" 291]),(177,[.S 1,.C]),(179,[.F 0 0,.F 2 2,.Z 3 [.int .i64 0,.string ⟨#[]⟩,.int .i64 0],.Pl [(0,1),(1,1),(2,1)],.S 3,.F 1 1,.A 3]),(181,[.Z 7 [.string ⟨#[]⟩,.int .i64 0,.int .i64 0,.string ⟨#[]⟩,.int .i64 0,.int .i64 0,.int .i64 0],.Pl [(0,1),(1,1),(2,3),(5,1),(6,1)],.S 7,.F 2 2,.F 4 6,.F 3 5,.F 1 1,.F 0 0]),(185,[.Z 6 [.string ⟨#[]⟩,.string ⟨#[]⟩,.int .i64 0,.int .i64 0,.string ⟨#[]⟩,.int .i64 0],.A 6,.S 6,.F 2 2,.F 3 3,.F 5 5,.F 0 0,.Pl [(0,1),(1,1),(2,1),(3,1),(4,1),(5,1)],.F 1 1,.F 4 4]),(194,[.I .u64,.U]),(197,[.A 3,.Z 3 [.int .i64 0,.int .i64 0,.slice none 0 0],.S 3,.F 0 0,.F 1 1,.F 2 2,.Pl [(0,1),(1,1),(2,1)]]),(207,[.Z 4 [.bool false,.bool false,.bool false,.int .i64 0],.S 4,.F 0 0,.F 1 1,.F 2 2,.Pl [(0,1),(1,1),(2,1),(3,1)],.F 3 3]),(208,[.AA 9 4 207,.A 36,.Z 36 [.bool false,.bool false,.bool false,.int .i64 0,.bool false,.bool false,.bool false,.int .i64 0,.bool false,.bool false,.bool false,.int .i64 0,.bool false,.bool false,.bool false,.int .i64 0,.bool false,.bool false,.bool false,.int .i64 0,.bool false,.bool false,.bool false,.int .i64 0,.bool false,.bool false,.bool false,.int .i64 0,.bool false,.bool false,.bool false,.int .i64 0,.bool false,.bool false,.bool false,.int .i64 0],.Arr 9 4,.S 36]),(237,[.I .u32,.U]),(239,[.U,.I .u64,.C]),(257,[.U,.El 5 1 1,.Sn,.Sl 1]),(261,[.C]),(289,[.AC 6 9,.A 6,.Z 6 [.string ⟨#[]⟩,.string ⟨#[]⟩,.string ⟨#[]⟩,.string ⟨#[]⟩,.string ⟨#[]⟩,.string ⟨#[]⟩],.Arr 6 1,.S 6]),(291,[.Cn]),(294,[.Cn]),(303,[.Z 3 [.string ⟨#[]⟩,.string ⟨#[]⟩,.nilIface],.Pl [(0,1),(1,1),(2,1)],.S 3]),(308,[.Cn]),(310,[.Z 1 [.string ⟨#[]⟩],.Pl [(0,1)],.S 1]),(312,[.Z 24 [.int .u8 0,.int .u8 0,.int .u8 0,.int .u8 0,.int .u8 0,.int .u8 0,.int .u8 0,.int .u8 0,.int .u8 0,.int .u8 0,.int .u8 0,.int .u8 0,.int .u8 0,.int .u8 0,.int .u8 0,.int .u8 0,.int .u8 0,.int .u8 0,.int .u8 0,.int .u8 0,.int .u8 0,.int .u8 0,.int .u8 0,.int .u8 0],.Arr 24 1]),(317,[.Arr 20 1]),(318,[.Z 65 [.int .u8 0,.int .u8 0,.int .u8 0,.int .u8 0,.int .u8 0,.int .u8 0,.int .u8 0,.int .u8 0,.int .u8 0,.int .u8 0,.int .u8 0,.int .u8 0,.int .u8 0,.int .u8 0,.int .u8 0,.int .u8 0,.int .u8 0,.int .u8 0,.int .u8 0,.int .u8 0,.int .u8 0,.int .u8 0,.int .u8 0,.int .u8 0,.int .u8 0,.int .u8 0,.int .u8 0,.int .u8 0,.int .u8 0,.int .u8 0,.int .u8 0,.int .u8 0,.int .u8 0,.int .u8 0,.int .u8 0,.int .u8 0,.int .u8 0,.int .u8 0,.int .u8 0,.int .u8 0,.int .u8 0,.int .u8 0,.int .u8 0,.int .u8 0,.int .u8 0,.int .u8 0,.int .u8 0,.int .u8 0,.int .u8 0,.int .u8 0,.int .u8 0,.int .u8 0,.int .u8 0,.int .u8 0,.int .u8 0,.int .u8 0,.int .u8 0,.int .u8 0,.int .u8 0,.int .u8 0,.int .u8 0,.int .u8 0,.int .u8 0,.int .u8 0,.int .u8 0],.Arr 65 1]),(319,[.Arr 32 1]),(320,[.Arr 64 1])]
theorem evtt_ok:TTok Tryz.prog evtt:=tt_b (by kernel_rfl) (by kernel_rfl) ⟨⟨fun v args w=>by kernel_rfl,fun v w=>by kernel_rfl⟩,⟨fun v args w=>by kernel_rfl,fun v w=>by kernel_rfl⟩,⟨fun v args w=>by kernel_rfl,fun v w=>by kernel_rfl⟩,⟨fun v args w=>by kernel_rfl,fun v w=>by kernel_rfl⟩,⟨fun v args w=>by kernel_rfl,fun v w=>by kernel_rfl⟩,⟨fun v args w=>by kernel_rfl,fun v w=>by kernel_rfl⟩,⟨fun v args w=>by kernel_rfl,fun v w=>by kernel_rfl⟩,⟨fun v args w=>by kernel_rfl,fun v w=>by kernel_rfl⟩,trivial⟩
def evmt:List MT:=[⟨91,9,98,true,.i64,.agg [.con (.bool false),.con (.bool false),.con (.string ⟨#[]⟩),.con (.int .i64 0)]⟩,⟨92,9,4,true,.i64,.con (.bool false)⟩]
theorem evmt_ok:MTok Tryz.prog evmt:=by
 intro p hp
 simp only[evmt,List.mem_cons,List.not_mem_nil,or_false] at hp
 rcases hp with rfl|rfl
 ·exact⟨by kernel_rfl,keyT_str (by kernel_rfl),_,by kernel_rfl,fun _=>(irel_agg [Value.bool false,Value.bool false,Value.string ⟨#[]⟩,Value.int .i64 0])⟩
 ·exact⟨by kernel_rfl,keyT_str (by kernel_rfl),_,by kernel_rfl,fun _=>(.con _)⟩
end Go.Proofs.YtelmfadihfcgnaaGreatDoor
/-
 DERIVED: THE SHELF's CONTRACTS AT THIS DUMP, IN PLAIN WORDS (tools/lay-plain.mjs out of 'TryzShelf.lean', which tools/lay-shelf.mjs wrote): THE SAME DECLARATIONS UNDER THE SAME NAMES: 'import', 'namespace', 'open', 'def', 'theorem' AND NOTHING ELSE: no command of the shelf's: FOR A HAND-IN. Each laying: the table of numbers ('.._ren') and one theorem, a field a fact of the dump's own or the kernel's comparison; each contract: ONE APPLICATION.
-/
namespace Go.Proofs
open Go.Shelf
set_option linter.unusedVariables false
def Tryz.lays137_ren:Go.Shelf.Ren:=⟨fun|137=>149|217=>207|266=>232|n=>n,fun|9=>9|5=>5|3=>3|n=>n,fun|n=>n⟩
theorem Tryz.lays137:Go.Proofs.Lays.n137 Tryz.prog Tryz.lays137_ren:={
 mixed:=by kernel_rfl
 f137:=Tryz.func149.trans (congrArg some (by kernel_rfl))
 f217:=Tryz.func207.trans (congrArg some (by kernel_rfl))
 f266:=Tryz.func232.trans (congrArg some (by kernel_rfl))
 t3:=Tryz.underlying3
 a3:=Tryz.isAgg3
 z3:=Tryz.sizeOf3
 v3:=Tryz.zeroValue3
 t5:=Tryz.underlying5
 a5:=Tryz.isAgg5
 z5:=Tryz.sizeOf5
 v5:=Tryz.zeroValue5
 t9:=Tryz.underlying9
 a9:=Tryz.isAgg9
 z9:=Tryz.sizeOf9
 v9:=Tryz.zeroValue9 }
open Go.RowKit in
theorem Tryz.strings_IndexByte(s:ByteArray)(c:Int)(w:World):
  Calls Tryz.prog 149 #[.string s,.int .u8 c] w fun e w'=>e=.returned (.int .i64 (Lib.indexByte s.data.toList c.toNat.toUInt8))/\w'=w:=Any.strings_IndexByte Tryz.lays137 s c w
def Tryz.lays172_ren:Go.Shelf.Ren:=⟨fun|172=>197|244=>226|245=>227|247=>241|279=>242|280=>243|281=>244|282=>245|287=>248|316=>249|171=>251|205=>250|321=>252|322=>253|243=>254|246=>255|283=>256|284=>257|285=>258|286=>259|129=>162|317=>260|318=>261|319=>262|320=>263|337=>264|338=>265|n=>n,fun|9=>9|3=>3|75=>261|76=>262|4=>4|5=>5|167=>291|37=>257|0=>0|85=>292|2=>2|168=>294|53=>239|175=>299|46=>194|210=>303|127=>307|145=>310|143=>308|21=>21|171=>312|173=>314|212=>317|51=>237|20=>20|213=>318|232=>319|233=>320|80=>218|n=>n,fun|15=>1|16=>2|17=>3|18=>4|19=>5|n=>n⟩
theorem Tryz.lays172:Go.Proofs.Lays.n172 Tryz.prog Tryz.lays172_ren:={
 mixed:=by kernel_rfl
 f129:=Tryz.func162.trans (congrArg some (by kernel_rfl))
 f171:=Tryz.func251.trans (congrArg some (by kernel_rfl))
 f172:=Tryz.func197.trans (congrArg some (by kernel_rfl))
 f205:=Tryz.func250.trans (congrArg some (by kernel_rfl))
 f243:=Tryz.func254.trans (congrArg some (by kernel_rfl))
 f244:=Tryz.func226.trans (congrArg some (by kernel_rfl))
 f245:=Tryz.func227.trans (congrArg some (by kernel_rfl))
 f246:=Tryz.func255.trans (congrArg some (by kernel_rfl))
 f247:=Tryz.func241.trans (congrArg some (by kernel_rfl))
 f279:=Tryz.func242.trans (congrArg some (by kernel_rfl))
 f280:=Tryz.func243.trans (congrArg some (by kernel_rfl))
 f281:=Tryz.func244.trans (congrArg some (by kernel_rfl))
 f282:=Tryz.func245.trans (congrArg some (by kernel_rfl))
 f283:=Tryz.func256.trans (congrArg some (by kernel_rfl))
 f284:=Tryz.func257.trans (congrArg some (by kernel_rfl))
 f285:=Tryz.func258.trans (congrArg some (by kernel_rfl))
 f286:=Tryz.func259.trans (congrArg some (by kernel_rfl))
 f287:=Tryz.func248.trans (congrArg some (by kernel_rfl))
 f316:=Tryz.func249.trans (congrArg some (by kernel_rfl))
 f317:=Tryz.func260.trans (congrArg some (by kernel_rfl))
 f318:=Tryz.func261.trans (congrArg some (by kernel_rfl))
 f319:=Tryz.func262.trans (congrArg some (by kernel_rfl))
 f320:=Tryz.func263.trans (congrArg some (by kernel_rfl))
 f321:=Tryz.func252.trans (congrArg some (by kernel_rfl))
 f322:=Tryz.func253.trans (congrArg some (by kernel_rfl))
 f337:=Tryz.func264.trans (congrArg some (by kernel_rfl))
 f338:=Tryz.func265.trans (congrArg some (by kernel_rfl))
 t0:=Tryz.underlying0
 a0:=Tryz.isAgg0
 z0:=Tryz.sizeOf0
 v0:=Tryz.zeroValue0
 t2:=Tryz.underlying2
 a2:=Tryz.isAgg2
 z2:=Tryz.sizeOf2
 v2:=Tryz.zeroValue2
 t3:=Tryz.underlying3
 a3:=Tryz.isAgg3
 z3:=Tryz.sizeOf3
 v3:=Tryz.zeroValue3
 t4:=Tryz.underlying4
 a4:=Tryz.isAgg4
 z4:=Tryz.sizeOf4
 v4:=Tryz.zeroValue4
 t5:=Tryz.underlying5
 a5:=Tryz.isAgg5
 z5:=Tryz.sizeOf5
 v5:=Tryz.zeroValue5
 t9:=Tryz.underlying9
 a9:=Tryz.isAgg9
 z9:=Tryz.sizeOf9
 v9:=Tryz.zeroValue9
 t20:=Tryz.underlying20
 a20:=Tryz.isAgg20
 z20:=Tryz.sizeOf20
 v20:=Tryz.zeroValue20
 t21:=Tryz.underlying21
 a21:=Tryz.isAgg21
 z21:=Tryz.sizeOf21
 v21:=Tryz.zeroValue21
 t37:=Tryz.underlying257
 a37:=Tryz.isAgg257
 z37:=Tryz.sizeOf257
 v37:=Tryz.zeroValue257
 t46:=Tryz.underlying194
 a46:=Tryz.isAgg194
 z46:=Tryz.sizeOf194
 v46:=Tryz.zeroValue194
 t51:=Tryz.underlying237
 a51:=Tryz.isAgg237
 z51:=Tryz.sizeOf237
 v51:=Tryz.zeroValue237
 t53:=Tryz.underlying239
 a53:=Tryz.isAgg239
 z53:=Tryz.sizeOf239
 v53:=Tryz.zeroValue239
 t75:=Tryz.underlying261
 a75:=Tryz.isAgg261
 z75:=Tryz.sizeOf261
 v75:=Tryz.zeroValue261
 t76:=Tryz.underlying262
 a76:=Tryz.isAgg262
 z76:=Tryz.sizeOf262
 v76:=Tryz.zeroValue262
 t85:=Tryz.underlying292
 a85:=Tryz.isAgg292
 z85:=Tryz.sizeOf292
 v85:=Tryz.zeroValue292
 t127:=Tryz.underlying307
 a127:=Tryz.isAgg307
 z127:=Tryz.sizeOf307
 v127:=Tryz.zeroValue307
 t143:=Tryz.underlying308
 a143:=Tryz.isAgg308
 z143:=Tryz.sizeOf308
 v143:=Tryz.zeroValue308
 t145:=Tryz.underlying310
 a145:=Tryz.isAgg310
 z145:=Tryz.sizeOf310
 v145:=Tryz.zeroValue310
 t167:=Tryz.underlying291
 a167:=Tryz.isAgg291
 z167:=Tryz.sizeOf291
 v167:=Tryz.zeroValue291
 t168:=Tryz.underlying294
 a168:=Tryz.isAgg294
 z168:=Tryz.sizeOf294
 v168:=Tryz.zeroValue294
 t171:=Tryz.underlying312
 a171:=Tryz.isAgg312
 z171:=Tryz.sizeOf312
 v171:=Tryz.zeroValue312
 t173:=Tryz.underlying314
 a173:=Tryz.isAgg314
 z173:=Tryz.sizeOf314
 v173:=Tryz.zeroValue314
 t175:=Tryz.underlying299
 a175:=Tryz.isAgg299
 z175:=Tryz.sizeOf299
 v175:=Tryz.zeroValue299
 t210:=Tryz.underlying303
 a210:=Tryz.isAgg303
 z210:=Tryz.sizeOf303
 v210:=Tryz.zeroValue303
 t212:=Tryz.underlying317
 a212:=Tryz.isAgg317
 z212:=Tryz.sizeOf317
 v212:=Tryz.zeroValue317
 t213:=Tryz.underlying318
 a213:=Tryz.isAgg318
 z213:=Tryz.sizeOf318
 t232:=Tryz.underlying319
 a232:=Tryz.isAgg319
 z232:=Tryz.sizeOf319
 v232:=Tryz.zeroValue319
 t233:=Tryz.underlying320
 a233:=Tryz.isAgg320
 z233:=Tryz.sizeOf320
 v233:=Tryz.zeroValue320
 g15:=by kernel_rfl
 g16:=by kernel_rfl
 g17:=by kernel_rfl
 g18:=by kernel_rfl
 g19:=by kernel_rfl }
open Go.RowKit in
theorem Tryz.strconv_Atoi(s:ByteArray)(n:Int)(hl:s.size<=18)(h:Lib.atoi s.data.toList=some n)(w:World):
  Calls Tryz.prog 197 #[.string s] w fun e w'=>e=.returned (.tuple #[.int .i64 n,.nilIface])/\∃t,w'=Lib.bytesWorld w 5 t:=Any.strconv_Atoi Tryz.lays172 s n hl h w
def Tryz.lays189_ren:Go.Shelf.Ren:=⟨fun|189=>59|125=>115|257=>114|128=>161|129=>162|294=>152|295=>153|296=>154|297=>155|298=>156|299=>157|216=>158|300=>159|301=>160|328=>208|329=>209|330=>210|331=>211|332=>212|215=>213|343=>233|n=>n,fun|28=>51|3=>3|46=>194|0=>0|51=>237|53=>239|4=>4|183=>230|182=>229|131=>124|5=>5|9=>9|218=>269|222=>273|228=>284|229=>144|n=>n,fun|n=>n⟩
theorem Tryz.lays189:Go.Proofs.Lays.n189 Tryz.prog Tryz.lays189_ren:={
 mixed:=by kernel_rfl
 f125:=Tryz.func115.trans (congrArg some (by kernel_rfl))
 f128:=Tryz.func161.trans (congrArg some (by kernel_rfl))
 f129:=Tryz.func162.trans (congrArg some (by kernel_rfl))
 f189:=Tryz.func59.trans (congrArg some (by kernel_rfl))
 f215:=Tryz.func213.trans (congrArg some (by kernel_rfl))
 f216:=Tryz.func158.trans (congrArg some (by kernel_rfl))
 f257:=Tryz.func114.trans (congrArg some (by kernel_rfl))
 f294:=Tryz.func152.trans (congrArg some (by kernel_rfl))
 f295:=Tryz.func153.trans (congrArg some (by kernel_rfl))
 f296:=Tryz.func154.trans (congrArg some (by kernel_rfl))
 f297:=Tryz.func155.trans (congrArg some (by kernel_rfl))
 f298:=Tryz.func156.trans (congrArg some (by kernel_rfl))
 f299:=Tryz.func157.trans (congrArg some (by kernel_rfl))
 f300:=Tryz.func159.trans (congrArg some (by kernel_rfl))
 f301:=Tryz.func160.trans (congrArg some (by kernel_rfl))
 f328:=Tryz.func208.trans (congrArg some (by kernel_rfl))
 f329:=Tryz.func209.trans (congrArg some (by kernel_rfl))
 f330:=Tryz.func210.trans (congrArg some (by kernel_rfl))
 f331:=Tryz.func211.trans (congrArg some (by kernel_rfl))
 f332:=Tryz.func212.trans (congrArg some (by kernel_rfl))
 f343:=Tryz.func233.trans (congrArg some (by kernel_rfl))
 t0:=Tryz.underlying0
 a0:=Tryz.isAgg0
 z0:=Tryz.sizeOf0
 v0:=Tryz.zeroValue0
 t3:=Tryz.underlying3
 a3:=Tryz.isAgg3
 z3:=Tryz.sizeOf3
 v3:=Tryz.zeroValue3
 t4:=Tryz.underlying4
 a4:=Tryz.isAgg4
 z4:=Tryz.sizeOf4
 v4:=Tryz.zeroValue4
 t5:=Tryz.underlying5
 a5:=Tryz.isAgg5
 z5:=Tryz.sizeOf5
 v5:=Tryz.zeroValue5
 t9:=Tryz.underlying9
 a9:=Tryz.isAgg9
 z9:=Tryz.sizeOf9
 v9:=Tryz.zeroValue9
 t28:=Tryz.underlying51
 a28:=Tryz.isAgg51
 z28:=Tryz.sizeOf51
 v28:=Tryz.zeroValue51
 t46:=Tryz.underlying194
 a46:=Tryz.isAgg194
 z46:=Tryz.sizeOf194
 v46:=Tryz.zeroValue194
 t51:=Tryz.underlying237
 a51:=Tryz.isAgg237
 z51:=Tryz.sizeOf237
 v51:=Tryz.zeroValue237
 t53:=Tryz.underlying239
 a53:=Tryz.isAgg239
 z53:=Tryz.sizeOf239
 v53:=Tryz.zeroValue239
 t131:=Tryz.underlying124
 a131:=Tryz.isAgg124
 z131:=Tryz.sizeOf124
 v131:=Tryz.zeroValue124
 t182:=Tryz.underlying229
 a182:=Tryz.isAgg229
 z182:=Tryz.sizeOf229
 v182:=Tryz.zeroValue229
 t183:=Tryz.underlying230
 a183:=Tryz.isAgg230
 z183:=Tryz.sizeOf230
 v183:=Tryz.zeroValue230
 t218:=Tryz.underlying269
 a218:=Tryz.isAgg269
 z218:=Tryz.sizeOf269
 v218:=Tryz.zeroValue269
 t222:=Tryz.underlying273
 a222:=Tryz.isAgg273
 z222:=Tryz.sizeOf273
 v222:=Tryz.zeroValue273
 t228:=Tryz.underlying284
 a228:=Tryz.isAgg284
 z228:=Tryz.sizeOf284
 v228:=Tryz.zeroValue284
 t229:=Tryz.underlying144
 a229:=Tryz.isAgg144
 z229:=Tryz.sizeOf144
 v229:=Tryz.zeroValue144 }
open Go.Sort Go.RowKit in
theorem Tryz.slices_Sort_int(blk off cap:Nat)(zs:List Int)(w:World)(hH:Holds (Value.int .i64) w blk off zs.toArray)(hblk:blk<w.heap.size)(hsz:zs.length<4611686018427387904):
  Calls Tryz.prog 59 #[.slice (some ⟨blk,off,none⟩) zs.length cap] w fun e w'=>
   e=.returned (.tuple #[])/\∃n os,w'=grow (putRow (Value.int .i64) (Sort.ahead w n) blk off (zs.mergeSort fun x y=>decide (x<=y)).toArray) os:=Any.slices_Sort_int Tryz.lays189 blk off cap zs w hH hblk hsz
def Tryz.lays190_ren:Go.Shelf.Ren:=⟨fun|190=>109|125=>115|258=>146|128=>161|129=>162|302=>198|303=>199|304=>200|305=>201|306=>202|307=>203|308=>204|309=>205|310=>206|333=>228|329=>209|330=>210|334=>229|335=>230|336=>231|344=>246|n=>n,fun|31=>22|9=>9|3=>3|46=>194|0=>0|51=>237|53=>239|4=>4|183=>230|182=>229|131=>124|5=>5|218=>269|222=>273|228=>284|229=>144|n=>n,fun|n=>n⟩
theorem Tryz.lays190:Go.Proofs.Lays.n190 Tryz.prog Tryz.lays190_ren:={
 mixed:=by kernel_rfl
 f125:=Tryz.func115.trans (congrArg some (by kernel_rfl))
 f128:=Tryz.func161.trans (congrArg some (by kernel_rfl))
 f129:=Tryz.func162.trans (congrArg some (by kernel_rfl))
 f190:=Tryz.func109.trans (congrArg some (by kernel_rfl))
 f258:=Tryz.func146.trans (congrArg some (by kernel_rfl))
 f302:=Tryz.func198.trans (congrArg some (by kernel_rfl))
 f303:=Tryz.func199.trans (congrArg some (by kernel_rfl))
 f304:=Tryz.func200.trans (congrArg some (by kernel_rfl))
 f305:=Tryz.func201.trans (congrArg some (by kernel_rfl))
 f306:=Tryz.func202.trans (congrArg some (by kernel_rfl))
 f307:=Tryz.func203.trans (congrArg some (by kernel_rfl))
 f308:=Tryz.func204.trans (congrArg some (by kernel_rfl))
 f309:=Tryz.func205.trans (congrArg some (by kernel_rfl))
 f310:=Tryz.func206.trans (congrArg some (by kernel_rfl))
 f329:=Tryz.func209.trans (congrArg some (by kernel_rfl))
 f330:=Tryz.func210.trans (congrArg some (by kernel_rfl))
 f333:=Tryz.func228.trans (congrArg some (by kernel_rfl))
 f334:=Tryz.func229.trans (congrArg some (by kernel_rfl))
 f335:=Tryz.func230.trans (congrArg some (by kernel_rfl))
 f336:=Tryz.func231.trans (congrArg some (by kernel_rfl))
 f344:=Tryz.func246.trans (congrArg some (by kernel_rfl))
 t0:=Tryz.underlying0
 a0:=Tryz.isAgg0
 z0:=Tryz.sizeOf0
 v0:=Tryz.zeroValue0
 t3:=Tryz.underlying3
 a3:=Tryz.isAgg3
 z3:=Tryz.sizeOf3
 v3:=Tryz.zeroValue3
 t4:=Tryz.underlying4
 a4:=Tryz.isAgg4
 z4:=Tryz.sizeOf4
 v4:=Tryz.zeroValue4
 t5:=Tryz.underlying5
 a5:=Tryz.isAgg5
 z5:=Tryz.sizeOf5
 v5:=Tryz.zeroValue5
 t9:=Tryz.underlying9
 a9:=Tryz.isAgg9
 z9:=Tryz.sizeOf9
 v9:=Tryz.zeroValue9
 t31:=Tryz.underlying22
 a31:=Tryz.isAgg22
 z31:=Tryz.sizeOf22
 v31:=Tryz.zeroValue22
 t46:=Tryz.underlying194
 a46:=Tryz.isAgg194
 z46:=Tryz.sizeOf194
 v46:=Tryz.zeroValue194
 t51:=Tryz.underlying237
 a51:=Tryz.isAgg237
 z51:=Tryz.sizeOf237
 v51:=Tryz.zeroValue237
 t53:=Tryz.underlying239
 a53:=Tryz.isAgg239
 z53:=Tryz.sizeOf239
 v53:=Tryz.zeroValue239
 t131:=Tryz.underlying124
 a131:=Tryz.isAgg124
 z131:=Tryz.sizeOf124
 v131:=Tryz.zeroValue124
 t182:=Tryz.underlying229
 a182:=Tryz.isAgg229
 z182:=Tryz.sizeOf229
 v182:=Tryz.zeroValue229
 t183:=Tryz.underlying230
 a183:=Tryz.isAgg230
 z183:=Tryz.sizeOf230
 v183:=Tryz.zeroValue230
 t218:=Tryz.underlying269
 a218:=Tryz.isAgg269
 z218:=Tryz.sizeOf269
 v218:=Tryz.zeroValue269
 t222:=Tryz.underlying273
 a222:=Tryz.isAgg273
 z222:=Tryz.sizeOf273
 v222:=Tryz.zeroValue273
 t228:=Tryz.underlying284
 a228:=Tryz.isAgg284
 z228:=Tryz.sizeOf284
 v228:=Tryz.zeroValue284
 t229:=Tryz.underlying144
 a229:=Tryz.isAgg144
 z229:=Tryz.sizeOf144
 v229:=Tryz.zeroValue144 }
open Go.Sort Go.RowKit in
theorem Tryz.slices_Sort_string(blk off cap:Nat)(ss:List (List UInt8))(w:World)(hH:Holds encStr w blk off ss.toArray)(hblk:blk<w.heap.size)(hsz:ss.length<4611686018427387904):
  Calls Tryz.prog 109 #[.slice (some ⟨blk,off,none⟩) ss.length cap] w fun e w'=>
   e=.returned (.tuple #[])/\∃n os,w'=grow (putRow encStr (Sort.ahead w n) blk off (ss.mergeSort fun x y=>decide (x<=y)).toArray) os:=Any.slices_Sort_string Tryz.lays190 blk off cap ss w hH hblk hsz
def Tryz.laysNm220_ren:Go.Shelf.Ren:=⟨fun|20=>186|n=>n,fun|22=>51|3=>3|4=>4|0=>0|n=>n,fun|n=>n⟩
theorem Tryz.laysNm220:Go.Proofs.Lays2.n20 Tryz.prog Tryz.laysNm220_ren:={
 mixed:=by kernel_rfl
 f20:=Tryz.func186.trans (congrArg some (by kernel_rfl))
 t0:=Tryz.underlying0
 a0:=Tryz.isAgg0
 z0:=Tryz.sizeOf0
 v0:=Tryz.zeroValue0
 t3:=Tryz.underlying3
 a3:=Tryz.isAgg3
 z3:=Tryz.sizeOf3
 v3:=Tryz.zeroValue3
 t4:=Tryz.underlying4
 a4:=Tryz.isAgg4
 z4:=Tryz.sizeOf4
 v4:=Tryz.zeroValue4
 t22:=Tryz.underlying51
 a22:=Tryz.isAgg51
 z22:=Tryz.sizeOf51
 v22:=Tryz.zeroValue51
 i3:=by kernel_rfl }
open Go.RowKit Go.Lib Go.Sort in
theorem Tryz.slices_Compact_int(blk off cap:Nat)(zs:List Int)(w:World)(hH:Holds (Value.int .i64) w blk off zs.toArray)(hsz:zs.length<=9223372036854775807)(hcap:zs.length<=cap):
  Calls Tryz.prog 186 #[.slice (some ⟨blk,off,none⟩) zs.length cap] w fun e w'=>e=.returned (.slice (some ⟨blk,off,none⟩) (Lib.compact zs).length cap)/\∃q,w'=putRow (Value.int .i64) (Sort.ahead w q) blk off (Lib.compact zs++List.replicate (zs.length - (Lib.compact zs).length) 0).toArray:=Any.slices_Compact_int Tryz.laysNm220 blk off cap zs w hH hsz hcap
open Go.RowKit Go.Lib Go.Sort in
theorem Tryz.slices_Compact_int_empty(a:Option Addr)(cap:Nat)(w:World):
  Calls Tryz.prog 186 #[.slice a 0 cap] w fun e w'=>e=.returned (.slice a 0 cap)/\w'=w:=Any.slices_Compact_int_empty Tryz.laysNm220 a cap w
def Tryz.lays194_ren:Go.Shelf.Ren:=⟨fun|194=>188|n=>n,fun|31=>22|9=>9|3=>3|4=>4|0=>0|n=>n,fun|n=>n⟩
theorem Tryz.lays194:Go.Proofs.Lays.n194 Tryz.prog Tryz.lays194_ren:={
 mixed:=by kernel_rfl
 f194:=Tryz.func188.trans (congrArg some (by kernel_rfl))
 t0:=Tryz.underlying0
 a0:=Tryz.isAgg0
 z0:=Tryz.sizeOf0
 v0:=Tryz.zeroValue0
 t3:=Tryz.underlying3
 a3:=Tryz.isAgg3
 z3:=Tryz.sizeOf3
 v3:=Tryz.zeroValue3
 t4:=Tryz.underlying4
 a4:=Tryz.isAgg4
 z4:=Tryz.sizeOf4
 v4:=Tryz.zeroValue4
 t9:=Tryz.underlying9
 a9:=Tryz.isAgg9
 z9:=Tryz.sizeOf9
 v9:=Tryz.zeroValue9
 t31:=Tryz.underlying22
 a31:=Tryz.isAgg22
 z31:=Tryz.sizeOf22
 v31:=Tryz.zeroValue22 }
open Go.RowKit Go.Lib Go.Sort in
theorem Tryz.slices_Compact_string(blk off cap:Nat)(zs:List (List UInt8))(w:World)(hH:Holds encStr w blk off zs.toArray)(hsz:zs.length<=9223372036854775807)(hcap:zs.length<=cap):
  Calls Tryz.prog 188 #[.slice (some ⟨blk,off,none⟩) zs.length cap] w fun e w'=>e=.returned (.slice (some ⟨blk,off,none⟩) (Lib.compact zs).length cap)/\∃q,w'=putRow encStr (Sort.ahead w q) blk off (Lib.compact zs++List.replicate (zs.length - (Lib.compact zs).length) []).toArray:=Any.slices_Compact_string Tryz.lays194 blk off cap zs w hH hsz hcap
open Go.RowKit Go.Lib Go.Sort in
theorem Tryz.slices_Compact_string_empty(a:Option Addr)(cap:Nat)(w:World):
  Calls Tryz.prog 188 #[.slice a 0 cap] w fun e w'=>e=.returned (.slice a 0 cap)/\w'=w:=Any.slices_Compact_string_empty Tryz.lays194 a cap w
open Go.RowKit Go.Sort in
theorem Tryz.slices_Sort_string_none(p:Option Addr)(cap:Nat)(w:World):
  Calls Tryz.prog 109 #[.slice p 0 cap] w fun e w'=>e=.returned (.tuple #[])/\w'=w:=Any.slices_Sort_string_none Tryz.lays190 p cap w
open Go.RowKit Go.Sort in
theorem Tryz.slices_Sort_int_none(p:Option Addr)(cap:Nat)(w:World):
  Calls Tryz.prog 59 #[.slice p 0 cap] w fun e w'=>e=.returned (.tuple #[])/\w'=w:=Any.slices_Sort_int_none Tryz.lays189 p cap w
end Go.Proofs
namespace Go.Proofs.YtelmfadihfcgnaaGreatDoor
open Go Go.Pv
def xAtoi:List V->Option V
 |[.con (.string s)]=>(match Lib.atoi s.data.toList with
  |some n=>(match Nat.ble s.size 18 with|true=>some (.tup [.con (.int .i64 n),.con .nilIface])|false=>none)
  |none=>none)
 |_=>none
theorem xAtoi_ok{gl:Gl}{avs:List V}{v:V}(h:xAtoi avs=some v):PureG gl Tryz.prog 197 avs v:=by
 unfold xAtoi at h
 split at h
 ·rename_i s
  split at h
  ·rename_i n hn
   split at h
   ·rename_i hl
    simp only[Option.some.injEq] at h;subst h
    refine pure_below (l:=[.string s]) (v:=.tuple #[.int .i64 n,.nilIface]) (fun w=>(Go.Proofs.Tryz.strconv_Atoi s n (Nat.le_of_ble_eq_true hl) hn w).mono ?_) (fun m=>.tup rfl fun i c v a b=>?_)
    ·rintro e w' ⟨rfl,t,rfl⟩
     exact⟨rfl,Go.Joins.below_bytesWorld _ w 5 t (Nat.le_refl _),trivial⟩
    ·match i with
     |0=>simp at a b;subst a b;exact .con _
     |1=>simp at a b;subst a b;exact .con _
     |i+2=>simp at a
   ·simp at h
  ·simp at h
 ·simp at h
def evxt:XT:=[(197,xAtoi)]
theorem evxt_ok{gl:Gl}:XTok gl Tryz.prog evxt:=by
 intro p hp
 simp only[evxt,List.mem_cons,List.not_mem_nil,or_false] at hp
 subst hp
 exact⟨by kernel_rfl,fun avs v h=>xAtoi_ok h⟩
theorem kmixed:Tryz.prog.follows .mixedOrders=true:=by kernel_rfl
theorem told_run:evF evft evxt evtt evmt 6000 11 []=some (.con (.bool true)):=by kernel_rfl
theorem told_pure{gl:Gl}:PureG gl Tryz.prog 11 [] (bV true):=evF_ok evft_ok evxt_ok evtt_ok evmt_ok kmixed told_run
set_option linter.unusedVariables false
set_option maxRecDepth 100000
theorem tZp103:(Tryz.prog.info? 103).bind (·.zero)=some (.pointer none):=by kernel_rfl
theorem tPn103:tyPt Tryz.prog 103=true:=by kernel_rfl
theorem encP_eq(p:(List UInt8)×(Option Tpolicy_subject)):encM9_335 p=((fun k=>str k) p.1,dopt 161 dencTpolicy_subject p.2):=rfl
theorem ObSub.holePR{n:Nat}{σ:Nat->Nat}{a1:List UInt8}{xs:List ((List UInt8)×(Option Tpolicy_subject))}{i j:Nat}(h1:Nat.blt j n=true)(h2:σ j=i):
  ObSub (Ren n σ) (.map (holeP encM9_335 (.ptr j 7 0 0) a1 xs)) (.map (holeP encM9_335 (.ptr i 7 0 0) a1 xs)):=
 ObSub.holeP encM9_335 a1 (CSub.sub (Sub.ptr h1 h2) rfl) (fun p=>CSub.same HyMC.h (Sub.kp (keep_dopt _ _))) xs
theorem closeS{K:Ctx}{S:St}(id nid a b c:Nat){xs:List ((List UInt8)×(Option Tpolicy_subject))}{k0:List UInt8}(l1 l2:List (List UInt8))(l3:List Int)(t1 t2 t3:Bool)(w:Int)(hs:(mget xs k0).isSome=true)
  (ho:hget S.hp id=.map (holeP encM9_335 (.ptr nid 7 0 0) k0 xs)) (h1:hget S.hp nid=.arr 161 7 [[.own a l1.length,.own b l2.length,.own c l3.length,bV t1,bV t2,bV t3,iV w]])
  (ha:hget S.hp a=.arr 9 1 (l1.map encS)) (hb:hget S.hp b=.arr 9 1 (l2.map encS)) (hc:hget S.hp c=.arr 3 1 (l3.map encI_i64))
  (hd:([id,nid,a,b,c]:List Nat).Nodup):Ghost K S ⟨S.env,(id,.map ((mput xs k0 (some ⟨l1,l2,l3,t1,t2,t3,w⟩)).map encM9_335))::(a,.dead)::(b,.dead)::(c,.dead)::(nid,.dead)::S.hp,S.nx⟩:=by
 simp only[List.nodup_cons,List.mem_cons,List.not_mem_nil,or_false,not_or,not_false_eq_true,List.nodup_nil,and_true] at hd
 obtain⟨⟨d1,d2,d3,d4⟩,⟨d5,d6,d7⟩,⟨d8,d9⟩,d10⟩:=hd
 have bf:∀{i j:Nat},i≠j->Nat.beq i j=false:=fun h=>by
  cases e:Nat.beq _ _ with
  |false=>rfl
  |true=>exact absurd (Nat.eq_of_beq_eq_true e) h
 refine Ghost.trans (ghost_untake nid 0 0 a h1 rfl rfl ha (List.length_map _).symm (bf d5) (fun r hr=>by obtain⟨z,_,rfl⟩:=List.mem_map.1 hr;exact(imms_encS z).keep)) ?_
 refine Ghost.trans (ghost_untake nid 0 1 b (n:=l2.length) (by rw[hget_self]) rfl rfl (by rw[hget_put,if_neg d6,hget_put,if_neg d8];exact hb) (List.length_map _).symm (bf d6) (fun r hr=>by obtain⟨z,_,rfl⟩:=List.mem_map.1 hr;exact(imms_encS z).keep)) ?_
 refine Ghost.trans (ghost_untake nid 0 2 c (n:=l3.length) (by rw[hget_self]) rfl rfl (by rw[hget_put,if_neg d7,hget_put,if_neg d10,hget_put,if_neg d7,hget_put,if_neg d9];exact hc) (List.length_map _).symm (bf d7) (fun r hr=>by obtain⟨z,_,rfl⟩:=List.mem_map.1 hr;exact(imms_encI_i64 z).keep)) ?_
 refine Ghost.trans (ghost_putP id nid (y:=(⟨l1,l2,l3,t1,t2,t3,w⟩:Tpolicy_subject)) encM9_335 (fun k=>str k) dencTpolicy_subject 161 7 encP_eq hs (by
  simp only[hget_put]
  rw[if_neg (Ne.symm d1),if_neg (Ne.symm d4),if_neg (Ne.symm d1),if_neg (Ne.symm d3),if_neg (Ne.symm d1),if_neg (Ne.symm d2)];exact ho) (by rw[hget_self];rfl) (bf d1) (EK.h _)) ?_
 refine ghost_eqH _ fun q=>?_
 simp only[hget_put]
 by_cases q1:id=q
 ·simp[q1]
 ·by_cases q2:nid=q
  ·subst q2
   simp[q1,Ne.symm d5,Ne.symm d6,Ne.symm d7]
  ·simp only[if_neg q1,if_neg q2]
   by_cases q3:a=q
   ·subst q3;simp[Ne.symm d8,Ne.symm d9]
   ·by_cases q4:b=q
    ·subst q4;simp[q3,Ne.symm d10]
    ·simp[q3,q4]
theorem M89_some{F:Nat}{a1:List UInt8}{a2:List ((List UInt8)×(Option Tpolicy_subject))}{r}(h:M89 F a1 a2=some r):(mget r.1 a1).isSome=true:=by
 unfold M89 at h
 split at h
 ·cases h;simp[mget_mput]
 ·cases h
 ·rename_i s hs;cases h;simp[hs]
theorem of_M89(F:Nat)(a1:(List UInt8))(a2:List ((List UInt8)×(Option Tpolicy_subject)))(r:(List ((List UInt8)×(Option Tpolicy_subject))×Tpolicy_subject))(h:M89 F a1 a2=some r):Mut Tryz.prog 89 [(sV a1),(V.ptr 0 1 0 0)] 2 [(0,(Ob.arr 77 1 [[(V.map 1)]])),(1,(Ob.map (a2.map encM9_335)))] (resV [(V.ptr 2 7 0 0)]) 6 [(0,(Ob.arr 77 1 [[(V.map 1)]])),(1,(Ob.map (holeP encM9_335 (V.ptr 2 7 0 0) a1 r.1))),(2,(Ob.arr 161 7 [[(V.own 3 r.2.is.length),(V.own 4 r.2.begins.length),(V.own 5 r.2.numbers.length),(bV r.2.asText),(bV r.2.asNo),(bV r.2.has),(iV r.2.weight)]])),(3,(Ob.arr 9 1 (r.2.is.map encS))),(4,(Ob.arr 9 1 (r.2.begins.map encS))),(5,(Ob.arr 3 1 (r.2.numbers.map encI_i64)))]:=by
 unfold M89 at h
 have key:∀(xs:List ((List UInt8)×(Option Tpolicy_subject))) (s:Tpolicy_subject),(mget xs a1).isSome=true->Look (str a1) (holeP encM9_335 (V.ptr 2 7 0 0) a1 xs) (some (V.ptr 2 7 0 0)):=fun xs s hs=>holeP_look encM9_335 (fun k=>str k) dencTpolicy_subject 161 a1 (V.ptr 2 7 0 0) encP_eq (fun a b h=>inj_str a b h) xs hs
 have good:∀xs:List ((List UInt8)×(Option Tpolicy_subject)),∀p,p∈holeP encM9_335 (V.ptr 2 7 0 0) a1 xs->isStr p.1:=fun xs=>holeP_good encM9_335 a1 _ (fun _=>⟨_,rfl⟩) xs
 cases hm:mget a2 a1 with
 |none=>
  rw[hm] at h
  replace h:=Option.some.inj h
  subst h
  refine mut_enter Tryz.func89 rfl rfl (l:=[.tmp 3]) rfl rfl [(0,(sV a1)),(1,(V.ptr 0 1 0 0))] rfl (fun w0 m0 β0 hg=>en ?_)
  refine rn 9 rfl ?_
  refine aops_lookup none (V.con (.pointer none)) (V.con (.pointer none)) tMap77 tKey9 tZp103 (irel_con _) wants_none rfl (.own rfl) (.con rfl) ⟨_,rfl⟩ encM9_335_good (lookP_none encM9_335 (fun k=>str k) dencTpolicy_subject 161 a1 encP_eq (fun a b h=>inj_str a b h) a2 hm) rfl rfl ?_
  refine aops_eqNilN tPn103 wants_none rfl rfl rfl ?_
  refine fo (rn 7 rfl ?_)
  refine aops_ghost (ghost_nilC 2 9 1 (.arr 161 7 [[V.own 3 0,nV,nV,bV false,bV false,bV false,iV 2]]) (ObSub.box (.cons Sub.mkNil (.cons Sub.keepNil (.cons Sub.keepNil (.cons Sub.keepNil (.cons Sub.keepNil (.cons Sub.keepNil (.cons Sub.keepNil .nil))))))))) ?_
  refine aops_ghost (ghost_nilC 2 9 1 (.arr 161 7 [[V.own 3 0,V.own 4 0,nV,bV false,bV false,bV false,iV 2]]) (ObSub.box (.cons Sub.keepNil (.cons Sub.mkNil (.cons Sub.keepNil (.cons Sub.keepNil (.cons Sub.keepNil (.cons Sub.keepNil (.cons Sub.keepNil .nil))))))))) ?_
  refine aops_ghost (ghost_nilC 2 3 1 (.arr 161 7 [[V.own 3 0,V.own 4 0,V.own 5 0,bV false,bV false,bV false,iV 2]]) (ObSub.box (.cons Sub.keepNil (.cons Sub.keepNil (.cons Sub.mkNil (.cons Sub.keepNil (.cons Sub.keepNil (.cons Sub.keepNil (.cons Sub.keepNil .nil))))))))) ?_
  refine aops_mapUpdate (es:=a2.map encM9_335) (holeP encM9_335 (V.ptr 2 7 0 0) a1 (mput a2 a1 (some (Tpolicy_subject.mk [] [] [] false false false 2)))) tMap77 tKey9 wants_none rfl rfl (.con rfl) ⟨_,rfl⟩ encM9_335_good rfl
   (putsP_new encM9_335 (fun k=>str k) dencTpolicy_subject 161 a1 (V.ptr 2 7 0 0) (some (Tpolicy_subject.mk [] [] [] false false false 2)) encP_eq (fun a b h=>inj_str a b h) a2 hm) ?_
  refine fo (rn 5 rfl ?_)
  refine aops_lookup (some (V.ptr 2 7 0 0)) (V.con (.pointer none)) (V.ptr 2 7 0 0) tMap77 tKey9 tZp103 (irel_con _) wants_none rfl (.own rfl) (.con rfl) ⟨_,rfl⟩ (good _) (key _ (Tpolicy_subject.mk [] [] [] false false false 2) (by simp[mget_mput])) rfl rfl ?_
  refine fo (rn 2 rfl ?_)
  exact wR ⟨.inl rfl,[(3,V.ptr 2 7 0 0)],(ghost_ren 6 (fun i=>([0,1,2,3,4,5]:List Nat).getD i 0) _ _ (by decide) (EnvSub.get (.cons (Sub.ptr rfl rfl) .nil)) (HpSub.get (.cons rfl (ObSub.box (.cons (Sub.map rfl rfl) .nil)) (.cons rfl (ObSub.holePR rfl rfl) (.cons rfl (ObSub.box (.cons (Sub.own rfl rfl) (.cons (Sub.own rfl rfl) (.cons (Sub.own rfl rfl) (.cons (Sub.imm (Imm.con _)) (.cons (Sub.imm (Imm.con _)) (.cons (Sub.imm (Imm.con _)) (.cons (Sub.imm (Imm.con _)) .nil)))))))) (.cons rfl (ObSub.rows (rows_imm imms_encS)) (.cons rfl (ObSub.rows (rows_imm imms_encS)) (.cons rfl (ObSub.rows (rows_imm imms_encI_i64)) .nil))))))) rfl),.cons (.tmp rfl) .nil⟩
 |some q=>
  rw[hm] at h
  cases q with
  |none=>cases h
  |some s=>
   replace h:=Option.some.inj h
   subst h
   refine mut_enter Tryz.func89 rfl rfl (l:=[.tmp 3]) rfl rfl [(0,(sV a1)),(1,(V.ptr 0 1 0 0))] rfl (fun w0 m0 β0 hg=>en ?_)
   refine rn 9 rfl ?_
   refine aops_ghost (ghost_takeP 1 2 encM9_335 (fun k=>str k) dencTpolicy_subject 161 7 encP_eq rfl hm rfl rfl) ?_
   refine aops_ghost (ghost_take 2 0 0 3 (rows:=[dencTpolicy_subject s]) rfl rfl rfl rfl) ?_
   refine aops_ghost (ghost_take 2 0 1 4 (e:=161) (k:=7) (rows:=[[V.own 3 s.is.length,(V.dsl 9 1 (s.begins.map encS)),(V.dsl 3 1 (s.numbers.map encI_i64)),(bV s.asText),(bV s.asNo),(bV s.has),(iV s.weight)]]) (by simp[hget_put,setC,dencTpolicy_subject]) rfl rfl rfl) ?_
   refine aops_ghost (ghost_take 2 0 2 5 (e:=161) (k:=7) (rows:=[[V.own 3 s.is.length,V.own 4 s.begins.length,(V.dsl 3 1 (s.numbers.map encI_i64)),(bV s.asText),(bV s.asNo),(bV s.has),(iV s.weight)]]) (by simp[hget_put,setC]) rfl rfl rfl) ?_
   refine aops_ghost (ghost_tellC 2 (.arr 161 7 [[V.own 3 s.is.length,V.own 4 s.begins.length,V.own 5 s.numbers.length,(bV s.asText),(bV s.asNo),(bV s.has),(iV s.weight)]]) (ob0:=.arr 161 7 [[V.own 3 s.is.length,V.own 4 s.begins.length,V.own 5 s.numbers.length,(bV s.asText),(bV s.asNo),(bV s.has),(iV s.weight)]]) (by simp[hget_put,setC]) (ObSub.keep (fun _=>Sub.keepI) _)) ?_
   refine aops_lookup (some (V.ptr 2 7 0 0)) (V.con (.pointer none)) (V.ptr 2 7 0 0) tMap77 tKey9 tZp103 (irel_con _) wants_none rfl (.own rfl) (.con rfl) ⟨_,rfl⟩ (good _) (key _ s (by simp[hm])) rfl rfl ?_
   refine aops_eqNilP tPn103 wants_none rfl rfl rfl ?_
   refine fo (rn 7 rfl ?_)
   refine aops_lookup (some (V.ptr 2 7 0 0)) (V.con (.pointer none)) (V.ptr 2 7 0 0) tMap77 tKey9 tZp103 (irel_con _) wants_none rfl (.own rfl) (.con rfl) ⟨_,rfl⟩ (good _) (key _ s (by simp[hm])) rfl rfl ?_
   refine fo (rn 2 rfl ?_)
   exact wR ⟨.inl rfl,[(3,V.ptr 2 7 0 0)],(ghost_ren 6 (fun i=>([0,1,2,3,4,5]:List Nat).getD i 0) _ _ (by decide) (EnvSub.get (.cons (Sub.ptr rfl rfl) .nil)) (HpSub.get (.cons rfl (ObSub.box (.cons (Sub.map rfl rfl) .nil)) (.cons rfl (ObSub.holePR rfl rfl) (.cons rfl (ObSub.box (.cons (Sub.own rfl rfl) (.cons (Sub.own rfl rfl) (.cons (Sub.own rfl rfl) (.cons (Sub.imm (Imm.con _)) (.cons (Sub.imm (Imm.con _)) (.cons (Sub.imm (Imm.con _)) (.cons (Sub.imm (Imm.con _)) .nil)))))))) (.cons rfl (ObSub.rows (rows_imm imms_encS)) (.cons rfl (ObSub.rows (rows_imm imms_encS)) (.cons rfl (ObSub.rows (rows_imm imms_encI_i64)) .nil))))))) rfl),.cons (.tmp rfl) .nil⟩
end Go.Proofs.YtelmfadihfcgnaaGreatDoor
/-
 DERIVED: THE SHELF's CONTRACTS AT THIS DUMP, IN PLAIN WORDS (tools/lay-plain.mjs out of 'TryzShelf.lean', which tools/lay-shelf.mjs wrote): THE SAME DECLARATIONS UNDER THE SAME NAMES: 'import', 'namespace', 'open', 'def', 'theorem' AND NOTHING ELSE: no command of the shelf's: FOR A HAND-IN. Each laying: the table of numbers ('.._ren') and one theorem, a field a fact of the dump's own or the kernel's comparison; each contract: ONE APPLICATION.
-/
namespace Go.Proofs
open Go.Shelf
def Tryz.lz47_ren:Go.Shelf.Ren:=⟨fun|6=>47|8=>108|9=>109|11=>145|13=>115|12=>146|23=>161|24=>162|14=>198|15=>199|16=>200|17=>201|18=>202|19=>203|20=>204|21=>205|22=>206|25=>228|26=>209|27=>210|28=>229|29=>230|30=>231|31=>246|n=>n,fun|26=>9|28=>101|24=>22|0=>0|3=>3|37=>194|48=>237|50=>239|4=>4|40=>230|39=>229|45=>124|5=>5|9=>9|51=>269|55=>273|57=>284|58=>144|33=>37|n=>n,fun|n=>n⟩
theorem Tryz.lz47:Go.Proofs.SlLaysZ.n6 Tryz.prog Tryz.lz47_ren:={
 mixed:=by kernel_rfl
 f6:=⟨Tryz.f47.name,by decide,Tryz.func47.trans (congrArg some (by kernel_rfl))⟩
 f8:=⟨Tryz.f108.name,by decide,Tryz.func108.trans (congrArg some (by kernel_rfl))⟩
 f11:=⟨Tryz.f145.name,by decide,Tryz.func145.trans (congrArg some (by kernel_rfl))⟩
 t0:=Tryz.underlying0
 a0:=Tryz.isAgg0
 z0:=Tryz.sizeOf0
 v0:=Tryz.zeroValue0
 t24:=Tryz.underlying22
 a24:=Tryz.isAgg22
 z24:=Tryz.sizeOf22
 v24:=Tryz.zeroValue22
 t26:=Tryz.underlying9
 a26:=Tryz.isAgg9
 z26:=Tryz.sizeOf9
 v26:=Tryz.zeroValue9
 t28:=Tryz.underlying101
 a28:=Tryz.isAgg101
 z28:=Tryz.sizeOf101
 v28:=Tryz.zeroValue101
 i26:=by kernel_rfl }
def Tryz.lz48_ren:Go.Shelf.Ren:=⟨fun|7=>48|10=>110|n=>n,fun|23=>77|26=>9|3=>103|28=>101|0=>0|27=>100|33=>37|4=>4|n=>n,fun|n=>n⟩
theorem Tryz.lz48:Go.Proofs.SlLaysZ.n7 Tryz.prog Tryz.lz48_ren:={
 mixed:=by kernel_rfl
 f7:=⟨Tryz.f48.name,by decide,Tryz.func48.trans (congrArg some (by kernel_rfl))⟩
 f10:=⟨Tryz.f110.name,by decide,Tryz.func110.trans (congrArg some (by kernel_rfl))⟩
 t0:=Tryz.underlying0
 a0:=Tryz.isAgg0
 z0:=Tryz.sizeOf0
 v0:=Tryz.zeroValue0
 t4:=Tryz.underlying4
 a4:=Tryz.isAgg4
 z4:=Tryz.sizeOf4
 v4:=Tryz.zeroValue4
 t23:=Tryz.underlying77
 a23:=Tryz.isAgg77
 z23:=Tryz.sizeOf77
 v23:=Tryz.zeroValue77
 t26:=Tryz.underlying9
 a26:=Tryz.isAgg9
 z26:=Tryz.sizeOf9
 v26:=Tryz.zeroValue9
 t27:=Tryz.underlying100
 a27:=Tryz.isAgg100
 z27:=Tryz.sizeOf100
 v27:=Tryz.zeroValue100
 t28:=Tryz.underlying101
 a28:=Tryz.isAgg101
 z28:=Tryz.sizeOf101
 v28:=Tryz.zeroValue101
 t33:=Tryz.underlying37
 a33:=Tryz.isAgg37
 z33:=Tryz.sizeOf37
 v33:=Tryz.zeroValue37 }
def Tryz.lz110_ren:Go.Shelf.Ren:=⟨fun|10=>110|n=>n,fun|33=>37|23=>77|0=>0|4=>4|26=>9|3=>103|n=>n,fun|n=>n⟩
theorem Tryz.lz110:Go.Proofs.SlLaysZ.n10 Tryz.prog Tryz.lz110_ren:={
 mixed:=by kernel_rfl
 f10:=⟨Tryz.f110.name,by decide,Tryz.func110.trans (congrArg some (by kernel_rfl))⟩
 t0:=Tryz.underlying0
 a0:=Tryz.isAgg0
 z0:=Tryz.sizeOf0
 v0:=Tryz.zeroValue0
 t4:=Tryz.underlying4
 a4:=Tryz.isAgg4
 z4:=Tryz.sizeOf4
 v4:=Tryz.zeroValue4
 t23:=Tryz.underlying77
 a23:=Tryz.isAgg77
 z23:=Tryz.sizeOf77
 v23:=Tryz.zeroValue77
 t26:=Tryz.underlying9
 a26:=Tryz.isAgg9
 z26:=Tryz.sizeOf9
 v26:=Tryz.zeroValue9
 t33:=Tryz.underlying37
 a33:=Tryz.isAgg37
 z33:=Tryz.sizeOf37
 v33:=Tryz.zeroValue37 }
end Go.Proofs
