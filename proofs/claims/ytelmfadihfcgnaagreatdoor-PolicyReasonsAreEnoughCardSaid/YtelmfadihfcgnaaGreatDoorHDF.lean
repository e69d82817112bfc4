/- Part of the proof. -/
import Derived.Test.YtelmfadihfcgnaaGreatDoorHYF
import Derived.Shelf.SlIter.Sorted
set_option linter.unusedSimpArgs false
set_option linter.unusedVariables false
namespace Go.Pv
open Go
section
variable{K:cR}{Q:ca}{S:St}{s:List It}
variable{m:bB}{β:ba}{w:World}{a:Act}
variable{α τ:Type}
@[reducible] def zW(gl:Gl)(P:Program)(N k l:Nat)(old:Nat->Prop)(loc:Nat->Option (Option (Nat×ol)))(w0:World)(m0:bB)(hg:fU gl m0):cR:=⟨P,N,w0,m0,old,k,loc,gl,hg,some l⟩
theorem bX.touch(r:bX K m β w a S)(l:Nat)(o:Obj)(hl:m l=none)(hown:∀id b cap,ak S.hp id≠.dead->β id=some (some (b,cap))->b≠l)(hhid:∀id,ak S.hp id≠.dead->¬β.hid id l)(hfr:l<K.w0.heap.size->¬K.old l):
  bX K m β (w.putObj l o) a S:=by
 have hne:∀x,x≠l->(w.putObj l o).heap[x]? = w.heap[x]?:=fun x hx=>World.putObj_heap_other hx;refine⟨fun b o' h=>?_,r.ext,r.mold,fun b hb ho=>?_,by rw[World.putObj_size];exact r.size,⟨r.same.os,r.same.tape,r.same.output,r.same.drawn⟩,r.tn,r.df,r.env,fun id=>?_,r.priv,r.inj,fun id x hx hh=>?_,r.nx,r.pin⟩
 ·have:b≠l:=fun e=>by grind
  rw[hne b this];exact r.imm _ _ h
 ·have:b≠l:=fun e=>hfr (e ▸ hb) (e ▸ ho);rw[hne b this];exact r.frame b hb ho
 ·by_cases hd:ak S.hp id=.dead
  ·simp_all[bn.dead']
  ·exact bn.congr (fun b cap hb=>hne b (hown id b cap hd hb)) (fun x hx=>hne x (fun e=>hhid id hd (e ▸ hx))) (r.own id)
 ·have q:=r.hid id x hx hh;exact⟨by rw[World.putObj_size];exact q.lt,q.m,q.old,q.ne,q.un⟩
theorem bX.anew(r:bX K m β w ⟨a.tmps,[]⟩ S)(l:Nat)(o:Obj)(hl:m l=none)(h1:l<K.w0.heap.size)(h2:K.old l):
  bX ⟨K.P,K.N,w.putObj l o,m,fun b=>b<K.w0.heap.size/\K.old b,K.pins,K.loc,K.gl,K.glok.mono r.ext,K.rd⟩ m β (w.putObj l o) ⟨a.tmps,[]⟩ S:=by
 have hne:∀x,x≠l->(w.putObj l o).heap[x]? = w.heap[x]?:=fun x hx=>World.putObj_heap_other hx;refine⟨fun b o' h=>?_,bB.le_refl _,fun _ _ _=>Y,fun _ _ _=>Y,ae9 _,⟨Y,Y,Y,trivial⟩,r.tn,k7.nil,r.env,fun id=>?_,fun id b cap hd hb=>⟨(r.priv id b cap hd hb).1,fun _ ho=>(r.priv id b cap hd hb).2 ho.1 ho.2⟩,r.inj,fun id x hx hh=>?_,r.nx,r.pin⟩
 ·have:b≠l:=fun e=>by grind
  rw[hne b this];exact r.imm _ _ h
 ·by_cases hd:ak S.hp id=.dead
  ·simp_all[bn.dead']
  ·exact bn.congr (fun b cap hb=>hne b (fun e=>(r.priv id b cap hd hb).2 (e ▸ h1) (e ▸ h2))) (fun x hx=>hne x (fun e=>(r.hid id x hd hx).old (e ▸ h1) (e ▸ h2))) (r.own id)
 ·have q:=r.hid id x hx hh;exact⟨by rw[World.putObj_size];exact q.lt,q.m,fun _ ho=>q.old ho.1 ho.2,q.ne,q.un⟩
theorem t7{m0 m:bB}{β0 β:ba}{w0 w:World}{k:Nat}{hp0 hp:aC}(g:qx m0 β0 w0 k hp0 m β w k hp){l:Nat}(hl:l<w0.heap.size)(hF:c8 hp0 β0 l):c8 hp β l:=
 fun id hd=>⟨fun cap hb=>(g.priv id l cap hd hb).2 hl hF,fun hx=>(g.hid id l hd hx).2.2.1 hl hF⟩
theorem Cq{gl:Gl}{P:Program}{N k:Nat}{hp0:aC}{m0:bB}{β0:ba}{w0:World}{hpf:α->aC}{enc:τ->V}{R:α->τ->Option α}{assign body:Code}(l D fn t:Nat)(tmps:Array Value)(E:cc)
  (hl:w0.heap[l]? = some (.loop { state:=.ready,pending:=none,fn,tmps,params:=#[t],assign,body,defers:=D })) (hlm:m0 l=none) (hlF:c8 hp0 β0 l) (hgl:fU gl m0) (hsz:tmps.size=N) (ht:Nat.blt t N=true)
  (hβ:∀id,k<=id->β0 id=none) (henv:∀q,br m0 β0 (get E q) (tmps.getD q undef))
  (hround:∀(p:α) (x:τ) (r:α),R p x=some r->∃S1:St,(∀old loc w m (h:fU gl m),iC (zW gl P N k l old loc w m h) assign (fun e T=>e=.normal/\T=S1) ⟨(t,enc x)::E,hpf p,k⟩)/\
   ∀old loc w m (h:fU gl m),iC (zW gl P N k l old loc w m h) body (fun e T=>e=.normal/\∃env',aY (zW gl P N k l old loc w m h) T ⟨env',hpf r,k⟩) S1):
  NU P l k hp0 m0 β0 w0 hpf enc R:=by
 intro p x r m β w v hR g hv;obtain⟨S1,hA,hB⟩:=hround p x r hR;have hl0:l<w0.heap.size:=bD hl;have hlw:w.heap[l]? = some (.loop { state:=.ready,pending:=none,fn,tmps,params:=#[t],assign,body,defers:=D }):=(g.old l hl0 hlF).2.trans hl;have hlm':m l=none:=(g.old l hl0 hlF).1.trans hlm;have hlt:l<w.heap.size:=bD hlw;have hFl:c8 (hpf p) β l:=t7 g hl0 hlF;have hgm:fU gl m:=hgl.mono g.le;have ht':t<tmps.size:=by rw[hsz];exact ax8 ht
 have hβle:β0.le β:=by
  intro id q hq;have:id<k:=Nat.lt_of_not_le fun h=>by grind
  rw[(g.pin id this).2];exact hq
 have r1:bX (zW gl P N k l (c8 (hpf p) β) β.f w m hgm) m β w ⟨tmps.setIfInBounds t v,[]⟩ ⟨(t,enc x)::E,hpf p,k⟩:=by
  constructor
  ·exact g.imm
  ·exact bB.le_refl _
  ·grind
  ·grind
  ·grind
  ·exact⟨Y,Y,Y,trivial⟩
  ·grind
  ·exact k7.nil
  ·intro q
   show br _ _ (get ((t,enc x)::E) q) _
   rw[cn,bm8,bq8];by_cases e:t=q
   ·subst e;simp only[if_true,if_pos ht',bx8];exact .imm hv
   ·rw[if_neg e,if_neg e,<-bm8];exact(henv q).mono g.le hβle
  ·exact g.own
  ·exact fun id b cap hd hb=>⟨(g.priv id b cap hd hb).1,fun _ hF=>(hF id hd).1 cap hb⟩
  ·exact g.inj
  ·exact fun id y hd hy=>let q:=g.hid id y hd hy;⟨q.1,q.2.1,fun _ hF=>(hF id hd).2 hy,q.2.2.2.1,q.2.2.2.2⟩
  ·exact g.nx
  ·grind
 refine⟨fn,_,assign,body,run_yield hlw Y,?_⟩;have htm:(Array.zip #[t] #[v]).foldl (fun tmps (q:Nat×Value)=>tmps.setIfInBounds q.1 q.2) tmps=tmps.setIfInBounds t v:=by simp
 refine roundIn_of_wpIn trivial ?_
 show assign.wpIn (Fence.wide.inRound l) 0 P _ { tmps:=(Array.zip #[t] #[v]).foldl (fun tmps (q:Nat×Value)=>tmps.setIfInBounds q.1 q.2) tmps,defers:=[] } w
 rw[htm];refine wpIn_mono (hA _ _ _ _ hgm m β w _ r1) ?_
 rintro e a1 w1 ⟨_,T,m1,β1,⟨rfl,rfl⟩,r2⟩
 have hl1:w1.heap[l]? = some (.loop { state:=.ready,pending:=none,fn,tmps,params:=#[t],assign,body,defers:=D }):=(r2.frame l hlt hFl).trans hlw;have hm1:m1 l=none:=(r2.mold l hlt hFl).trans hlm';refine⟨_,run_beginRound hl1 Y,?_⟩
 have ha1:a1=⟨a1.tmps,[]⟩:=by
  have:=r2.df.em rfl;cases a1;simp at this;subst this;rfl
 rw[ha1] at r2 ⊢;have r3:=r2.anew (a:=a1) l (.loop { state:=.busy,pending:=none,fn,tmps,params:=#[t],assign,body,defers:=D }) hm1 hlt hFl;have hl1t:l<w1.heap.size:=bD hl1;refine wpIn_mono (hB _ _ _ _ (hgm.mono r2.ext) m1 β1 _ _ r3) ?_
 rintro e a3 w3 ⟨_,T3,m3',β3',⟨rfl,env',hgh⟩,r4'⟩
 obtain⟨m3,β3,r4⟩:=hgh _ _ _ _ r4';have hl2t:l<(w1.putObj l (.loop { state:=.busy,pending:=none,fn,tmps,params:=#[t],assign,body,defers:=D })).heap.size:=by rw[World.putObj_size];exact hl1t
 have hl3:w3.heap[l]? = some (.loop { state:=.busy,pending:=none,fn,tmps,params:=#[t],assign,body,defers:=D }):=(r4.frame l hl2t ⟨hlt,hFl⟩).trans (World.putObj_heap_same hl1t);have hm3:m3 l=none:=(r4.mold l hl2t ⟨hlt,hFl⟩).trans hm1;refine⟨_,_,run_endRound none hl3,Y,m3,β3,?_⟩;have hne:∀(o:Obj) (W:World) x,x≠l->(W.putObj l o).heap[x]? = W.heap[x]?:=fun o W x hx=>World.putObj_heap_other hx;have hl3t:l<w3.heap.size:=bD hl3
 have hsz2:w.heap.size<=w3.heap.size:=by
  have h1:=r2.size;have h2:=r4.size;rw[World.putObj_size] at h2;exact bw9 h1 h2
 have own3:∀id b cap,ak (hpf r) id≠.dead->β3 id=some (some (b,cap))->b≠l:=fun id b cap hd hb e=>(r4.priv id b cap hd hb).2 (by grind) (by grind);have hid3:∀id,ak (hpf r) id≠.dead->¬β3.hid id l:=fun id hd hx=>(r4.hid id l hd hx).old hl2t ⟨hlt,hFl⟩;refine⟨bB.le_trans r2.ext r4.ext,fun b o h=>?_,fun b hb hF=>?_,by grind [World.putObj_size],?_,fun id=>?_,fun id b cap hd hb=>⟨(r4.priv id b cap hd hb).1,fun hb0 hF=>(r4.priv id b cap hd hb).2 ?_ ⟨hb0,hF⟩⟩,r4.inj,fun id y hd hy=>?_,r4.nx,r4.pin⟩
 ·have:b≠l:=fun e=>by grind
  rw[hne _ _ b this];exact r4.imm _ _ h
 ·have hb2:b<(w1.putObj l (.loop { state:=.busy,pending:=none,fn,tmps,params:=#[t],assign,body,defers:=D })).heap.size:=by rw[World.putObj_size];exact ck8 hb r2.size
  refine⟨(r4.mold b hb2 ⟨hb,hF⟩).trans (r2.mold b hb hF),?_⟩;by_cases e:b=l
  ·grind [World.putObj_heap_same]
  ·rw[hne _ _ b e,r4.frame b hb2 ⟨hb,hF⟩,hne _ _ b e];exact r2.frame b hb hF
 ·exact pL.trans r2.same (pL.trans (b:=w1.putObj l _) ⟨Y,Y,Y,trivial⟩ (pL.trans r4.same ⟨Y,Y,Y,trivial⟩))
 ·by_cases hd:ak (hpf r) id=.dead
  ·grind [bn.dead']
  ·exact bn.congr (fun b cap hb=>hne _ _ b (own3 id b cap hd hb)) (fun x hx=>hne _ _ x (fun e=>hid3 id hd (e ▸ hx))) (r4.own id)
 ·rw[World.putObj_size];exact ck8 hb0 r2.size
 ·have q:=r4.hid id y hd hy;refine⟨by rw[World.putObj_size];exact q.lt,q.m,fun hb0 hF=>q.old ?_ ⟨hb0,hF⟩,q.ne,q.un⟩;rw[World.putObj_size];exact ck8 hb0 r2.size
theorem ud{t gt:Tmp}{assign body:Code}{f k:Nat}{first first':List V}{hpf:α->aC}{enc:τ->V}{R:α->τ->Option α}{p0 pE:α}(σ τi:Nat->Nat)(u:aC)(E:cc)
  (hrd:K.rd=none) (hg:evl K S (.tmp gt)=.fn (.func f) first []) (hfo:cE K.P f=true) (ht:Nat.blt t K.N=true)
  (hsub:ia (Ren k σ) first' first) (hhp:bJ (Ren k σ) k σ S.hp (hpf p0)) (hE:bP (Ren k σ) S.env E)
  (hI:Hq K.gl K.P f first' k hpf enc R p0 pE)
  (hround:∀l (p:α) (x:τ) (r:α),R p x=some r->∃S1:St,(∀old loc w m (h:fU K.gl m),iC (zW K.gl K.P K.N k l old loc w m h) assign (fun e T=>e=.normal/\T=S1) ⟨(t,enc x)::E,hpf p,k⟩)/\
   ∀old loc w m (h:fU K.gl m),iC (zW K.gl K.P K.N k l old loc w m h) body (fun e T=>e=.normal/\∃env',aY (zW K.gl K.P K.N k l old loc w m h) T ⟨env',hpf r,k⟩) S1)
  (hto:Cv k k S.nx S.nx σ τi (fun _=>false)=true) (hτ:qG k τi=true) (hu:kS (To k τi) τi (hpf pE) k 0 u)
  (kk:Q .normal ⟨S.env,u++S.hp,S.nx⟩):iC K (.rangeFunc (.tmp gt) #[t] assign body) Q S:=by
 intro m β w a r;have hv:=r.reads (.tmp gt);rw[hg] at hv
 obtain⟨fs,e1,e2,e3⟩:∃fs:Array Value,a.eval (.tmp gt)=.func (.func f) fs #[]/\first.length=fs.size/\∀(i:Nat) c v,first[i]? = some c->fs[i]? = some v->br m β c v:=by
  generalize a.eval (.tmp gt)=v at hv;cases hv with
  |imm h=>cases h with|fn h1 h2 h3 h4=>exact⟨_,by grind,h1,fun i c v a b=>.imm (h3 i c v a b)⟩
  |fn h1 h2 h3 h4=>grind
 have hinj:=wz hτ;have hto':=zN hto;have hσ:∀i,i<k->σ i=τi i:=fun i hi=>((hto' i hi).2.1 hi).1.symm;refine wpIn_rangeFunc ?_;intro fn _
 -- the two blocks that the loop lays
 obtain⟨w1,hw1⟩:∃w1,(w.alloc (.deferred (some []))).alloc (.loop { state:=.ready,pending:=none,fn,tmps:=a.tmps,params:=#[t],assign,body,defers:=w.heap.size })=w1:=⟨_,rfl⟩;have hs1:w1.heap.size=w.heap.size+2:=by rw[<-hw1];simp
 have hold:∀b,b<w.heap.size->w1.heap[b]? = w.heap[b]?:=fun b hb=>by
  rw[<-hw1];show((w.heap.push _).push _)[b]? = _
  grind
 have hD1:w1.heap[w.heap.size]? = some (.deferred (some [])):=by
  rw[<-hw1];show((w.heap.push _).push _)[w.heap.size]? = _
  grind
 have hl1:w1.heap[w.heap.size+1]? = some (.loop { state:=.ready,pending:=none,fn,tmps:=a.tmps,params:=#[t],assign,body,defers:=w.heap.size }):=by
  rw[<-hw1];show((w.heap.push _).push _)[w.heap.size+1]? = _
  grind
 have hsame:pL w w1:=by rw[<-hw1];exact⟨Y,Y,Y,trivial⟩
 have hnone:∀b,w.heap.size<=b->m b=none:=fun b hb=>by
  cases h:m b with
  |none=>rfl
  |some o=>have:=bD (r.imm b o h);omega
 -- the memory: the mark's block is kept
 let m1:bB:=fun b=>if b=w.heap.size then some (.deferred (some [])) else m b
 have hm1o:∀b,b≠w.heap.size->m1 b=m b:=fun b hb=>by grind
 have hm1D:m1 w.heap.size=some (.deferred (some [])):=by show(if _ then _ else _)=_;grind
 have hg1:ur m m1 w w1:=by
  refine⟨fun b o h=>?_,fun b o h=>?_,fun b hb=>hm1o b (by omega),hold,by omega,hsame⟩
  ·grind
  ·by_cases e:b=w.heap.size
   ·grind
   ·rw[hm1o b e] at h;rw[hold b (bD (r.imm b o h))];exact r.imm b o h
 have r1:bX K m1 β w1 a S:=r.grow hg1;have hlm:m1 (w.heap.size+1)=none:=by rw[hm1o _ (by omega)];exact hnone _ (by omega)
 -- a context in which the loop's record is kept
 let K1:cR:=⟨K.P,K.N,w1,m1,fun b=>(b<K.w0.heap.size/\K.old b)\/b=w.heap.size+1,K.pins,K.loc,K.gl,K.glok.mono r1.ext,K.rd⟩
 have own_lt:∀id b cap,ak S.hp id≠.dead->β id=some (some (b,cap))->b<w.heap.size:=fun id b cap hd hb=>eL hd hb (r.own id)
 have rK:bX K1 m1 β w1 ⟨a.tmps,[]⟩ S:=by
  refine⟨r1.imm,bB.le_refl _,fun _ _ _=>Y,fun _ _ _=>Y,ae9 _,⟨Y,Y,Y,trivial⟩,r1.tn,k7.nil,r1.env,r1.own,fun id b cap hd hb=>⟨(r1.priv id b cap hd hb).1,fun _ ho=>?_⟩,r1.inj,fun id x hd hx=>?_,r1.nx,r1.pin⟩
  ·rcases ho with ⟨h1,h2⟩|h
   ·exact(r1.priv id b cap hd hb).2 h1 h2
   grind
  ·have q:=r1.hid id x hd hx;refine⟨q.lt,q.m,fun _ ho=>?_,q.ne,q.un⟩;rcases ho with ⟨h1,h2⟩|h
   ·exact q.old h1 h2
   ·have:=(r.hid id x hd hx).lt;omega
 have H:=rK.hand (bJ.get hhp) (fun i j hi hj e=>hinj i j hi hj (by grind));have hyR:Ren k σ m1 β m1 (β.sub k σ):=⟨rfl,fun id h=>by show(if _ then _ else _)=_;grind⟩
 have hfs:iY m1 (β.sub k σ) first' fs:=by
  refine⟨by rw[hsub.len];exact e2,fun i c v hi hv=>?_⟩;have hlt:=(bd9.1 hi).1;have hlt':i<first.length:=by rw[<-hsub.len];exact hlt
  exact hsub.get i c _ hi (az9 hlt') _ _ _ _ _ hyR ((e3 i _ v (az9 hlt') hv).mono hg1.le (ba.le_refl _))
 have hFl:c8 (hpf p0) (β.sub k σ) (w.heap.size+1):=by
  intro id hd;obtain⟨h1,h2⟩:=(bJ.get hhp) id;have hk:id<k:=h1.resolve_left hd
  have hd2:ak S.hp (σ id)≠.dead:=fun hdd=>by
   grind [ag]
  refine⟨fun cap hb=>?_,fun hx=>?_⟩
  ·have e0:(β.sub k σ) id=β (σ id):=by show(if _ then _ else _)=_;grind
   grind
  ·have:=(r.hid (σ id) _ hd2 hx).lt;omega
 have hY:NU K.P (w.heap.size+1) k (hpf p0) m1 (β.sub k σ) w1 hpf enc R:=
  Cq (gl:=K.gl) (N:=K.N) (w.heap.size+1) w.heap.size fn t a.tmps E hl1 hlm hFl (K.glok.mono r1.ext) r1.tn ht
   (fun id hid=>by show(if _ then _ else _)=_;grind) (fun q=>(bP.get hE q) _ _ _ _ _ hyR (r1.env q)) (hround (w.heap.size+1))
 refine⟨w.heap.size+1,[{ target:=.collected w.heap.size,args:=#[] }],w1,{ target:=.fn (.func f) #[],args:=fs++#[.func (.yield (w.heap.size+1)) #[] #[]] },w1,f,fs++#[.func (.yield (w.heap.size+1)) #[] #[]],w1,?_,?_,fun _ _=>trivial,?_,fun h=>by simp[Fence.wide] at h,?_⟩
 ·grind [run_enterLoop_outer]
 ·simp only[resolve,e1,Deferred.ofValue];simp[pure,Act.eval]
 ·grind [invoke,fE]
 ·refine callsIn_wide.2 ((hI m1 (β.sub k σ) w1 fs (w.heap.size+1) rK.imm (K.glok.mono r1.ext) hfs H hY).mono ?_)
  rintro e w2 ⟨v,m',β',rfl,ga⟩
  obtain⟨β2,r2,_⟩:=rK.back σ τi S.nx u (fun _=>false) (bJ.get hhp) (fun _ h=>by simp at h) hto hτ (cj9 (ae9 _)) (cj9 (ae9 _)) (fun _ h=>by simp at h) hu ga;have hlt1:w.heap.size+1<w1.heap.size:=by omega
  have hl2:w2.heap[w.heap.size+1]? = some (.loop { state:=.ready,pending:=none,fn,tmps:=a.tmps,params:=#[t],assign,body,defers:=w.heap.size }):=(r2.frame _ hlt1 (.inr rfl)).trans hl1;have hm2:m' (w.heap.size+1)=none:=(r2.mold _ hlt1 (.inr rfl)).trans hlm;refine⟨none,_,run_endLoop hl2 (by simp),?_⟩;refine⟨Y,⟨S.env,u++S.hp,S.nx⟩,m',β2,kk,?_⟩;have hw0:K.w0.heap.size<=w1.heap.size:=bw9 r.size (by omega)
  have r3:bX K m' β2 w2 { a with defers:={ target:=.collected w.heap.size,args:=#[] }::a.defers } ⟨S.env,u++S.hp,S.nx⟩:=by
   refine⟨r2.imm,bB.le_trans r1.ext r2.ext,fun b hb ho=>(r2.mold b (ck8 hb hw0) (.inl ⟨hb,ho⟩)).trans (r1.mold b hb ho),fun b hb ho=>(r2.frame b (ck8 hb hw0) (.inl ⟨hb,ho⟩)).trans (r1.frame b hb ho),bw9 hw0 r2.size,r1.same.trans r2.same,r2.tn,?_,r2.env,r2.own,fun id b cap hd hb=>⟨(r2.priv id b cap hd hb).1,fun hb0 ho=>(r2.priv id b cap hd hb).2 (ck8 hb0 hw0) (.inl ⟨hb0,ho⟩)⟩,r2.inj,fun id x hd hx=>?_,r2.nx,r2.pin⟩
   ·have hmk:=r.df;refine⟨fun d hd=>?_,aa9.2 ⟨fun hd=>?_,hmk.nd⟩,fun h=>by grind⟩
    ·rcases as9.1 hd with e|hd
     ·refine⟨w.heap.size,e,r.size,?_,r2.ext _ _ hm1D⟩;cases h:K.m0 w.heap.size with
      |none=>rfl
      |some o=>have:=r.ext _ _ h;grind
     ·obtain⟨D,g1,g2,g3,g4⟩:=hmk.at' d hd;exact⟨D,g1,g2,g3,r2.ext _ _ (hg1.le _ _ g4)⟩
    ·obtain⟨D,g1,g2,g3,g4⟩:=hmk.at' _ hd<;>grind
   ·have q:=r2.hid id x hd hx;exact⟨q.lt,q.m,fun hb0 ho=>q.old (ck8 hb0 hw0) (.inl ⟨hb0,ho⟩),q.ne,q.un⟩
  refine r3.touch (w.heap.size+1) _ hm2 (fun id b cap hd hb e=>(r2.priv id b cap hd hb).2 (by grind) (.inr e)) (fun id hd hx=>(r2.hid id _ hd hx).old hlt1 (.inr Y)) (fun h=>by have:=r.size;omega)
end
section
variable{K:cR}{Q:ca}{S:St}
variable{m:bB}{β:ba}{w:World}{a:Act}
variable{ops:Array Oper}{rest:List Oper}{ty:TypeId}{pos:String}{after:Array Edge}{g:Option (Nat×Bool)}
theorem bX.nilO(r:bX K m β w a S)(e:TypeId)(k:Nat):∃β':ba,bX K m β' w a ⟨S.env,(S.nx,.arr e k [])::S.hp,S.nx+1⟩/\β' S.nx=some none:=by
 have henv:∀t,ai (HB S.nx) (get S.env t) (get S.env t):=fun _=>ai.keepNil;have hhp:∀i,ag (HB S.nx) (ak S.hp i) (ak S.hp i):=fun _=>ag.keep (fun _=>ai.keepNil) _
 let β':ba:=⟨fun i=>if i=S.nx then some none else β i,fun i=>if i=S.nx then fun _=>False else β.hid i⟩
 have en:β' S.nx=some none:=by show(if _ then _ else _)=_;grind
 have eo:∀i,i≠S.nx->β' i=β i:=fun i h=>by grind
 have hn:β'.hid S.nx=fun _=>False:=by show(if _ then _ else _)=_;grind
 have hho:∀i,i≠S.nx->β'.hid i=β.hid i:=fun i h=>by grind
 have hle:β.le β':=by
  intro i l h;rw[eo i]
  ·exact h
  ·intro e;rw[e,r.nx _ (ae9 _)] at h;simp at h
 have hy:HB S.nx m β m β':=⟨rfl,hle,en⟩;have hdead:∀i,ak S.hp i≠.dead->ak S.hp i≠.dead:=fun _ h=>h
 have hlive:∀i b c,ak ((S.nx,.arr e k [])::S.hp) i≠.dead->β' i=some (some (b,c))->ak S.hp i≠.dead/\β i=some (some (b,c)):=by
  intro i b c h hb;rw[av] at h;by_cases hi:S.nx=i
  ·grind
  ·grind
 refine⟨β',⟨r.imm,r.ext,r.mold,r.frame,r.size,r.same,r.tn,r.df,fun t=>henv t _ _ _ _ _ hy (r.env t),fun i=>?_,fun i b c h hb=>?_,fun i i' b c c' h h' hb hb'=>?_,fun i x h hx=>?_,fun i hi=>?_,fun q hq=>?_⟩,en⟩
 ·show bn m β' w (β'.hid i) (β' i) (ak ((S.nx,.arr e k [])::S.hp) i)
  rw[av];by_cases hi:S.nx=i
  ·simp_all[bn]
  ·rw[if_neg hi];have h2:=hhp i;rw[eo i (Ne.symm hi),hho i (Ne.symm hi)];exact h2.ok hy (r.own i)
 ·obtain⟨h1,h2⟩:=hlive i b c h hb;exact r.priv i b c h1 h2
 ·obtain⟨h1,h2⟩:=hlive i b c h hb;obtain⟨h1',h2'⟩:=hlive i' b c' h' hb';exact r.inj i i' b c c' h1 h1' h2 h2'
 ·have h0:ak ((S.nx,.arr e k [])::S.hp) i≠.dead:=h;rw[av] at h0;by_cases hi:S.nx=i
  ·grind
  ·rw[if_neg hi] at h0;rw[hho i (Ne.symm hi)] at hx;have q:=r.hid i x (hdead i h0) hx;refine⟨q.lt,q.m,q.old,fun i' b c h' hb'=>?_,fun i' h' hx'=>?_⟩
   ·obtain⟨h1,h2⟩:=hlive i' b c h' hb';exact q.ne i' b c h1 h2
   ·have h0':ak ((S.nx,.arr e k [])::S.hp) i'≠.dead:=h';rw[av] at h0';by_cases hi':S.nx=i'
    ·grind
    ·rw[if_neg hi'] at h0';rw[hho i' (Ne.symm hi')] at hx';exact q.un i' (hdead i' h0') hx'
 ·have hi':S.nx+1<=i:=hi;rw[eo i (by omega)];exact r.nx i (by omega)
 ·obtain⟨h1,h2⟩:=r.pin q hq<;>grind
theorem uj{S0:St}{d T T' e k bytes n n' id:Nat}{s x:Operand}{sv:V}{rows:List (List V)}(idn nx':Nat)(hfree:∀m β w a,bX K m β w a S->β idn=none/\∀q,q<K.pins->q≠idn)(hidn:idn<nx')(hnn:S.nx<=nx')(rows2 rows':List (List V))(hT:eQ K.P T e k bytes=true)(hT':xM K.P T'=true)
  (hpos:Nat.blt 0 bytes=true) (hkp:Nat.blt 0 k=true)
  (hw:aN ops S0 ⟨some d,.call ⟨.builtin .append,#[s,x],#[T,T']⟩,ty,pos,after,g⟩ true)
  (hs:∀m β w a,bX K m β w a S0->∃β1,bX K m β1 w a S/\br m β1 (.own id n) (a.eval s)) (ho:ak S.hp id=.arr e k rows) (hn:rows.length=n) (hx:evl K S x=sv) (hsrc:xE S k sv rows2)
  (hr:rows++rows2=rows') (hn':rows'.length=n') (hb:n'*bytes<=140737488355328\/(rows2.length=1/\n'*bytes<=211106232532992/\bytes<=1000000)) (hN:Nat.blt d K.N=true)
  (kk:ay K ops rest Q ⟨(d,.own idn n')::S.env,(idn,.arr e k rows')::(id,.dead)::S.hp,nx'⟩):
  ay K ops (⟨some d,.call ⟨.builtin .append,#[s,x],#[T,T']⟩,ty,pos,after,g⟩::rest) Q S0:=by
 refine cm hw (fun m β00 w a r00=>?_) kk;obtain⟨β,r,hsv⟩:=hs m β00 w a r00;have hpos:=ax8 hpos;have hkp:0<k:=ax8 hkp;obtain⟨news,n1,n2,n3,n4,n5⟩:=hsrc.read hkp r (by rw[<-hx];exact r.reads x);have hlen:n'=n+rows2.length:=by grind
 have hop:∀(v:Value) (w':World),(Builtin.append_ #[T,T'] ty #[a.eval s,a.eval x]).run K.P w=.ok v w'->
   (execOp a.eval ⟨some d,.call ⟨.builtin .append,#[s,x],#[T,T']⟩,ty,pos,after,g⟩).run K.P w=.ok (.value v) w':=by
  intro v w' h;refine dK Y ?_;simp only[builtin,bl8,bm9,ap8,Sem.run_bind,h,Result.andThen_ok];rfl
 -- rows of the result
 have hrows':∀row,row∈rows'->(∀row,row∈rows->row.length=k)->row.length=k:=by
  intro row h h5;rw[<-hr] at h;rcases bz8.1 h with h|h
  ·grind
  ·grind
 have hcells:∀(β':ba) (w':World) (bl:Nat->Nat->Prop) (off:Nat) (old:Nat->Option Value) (arr':Array Value),β.le β'->(∀p x,bl p x->w'.heap[x]? = w.heap[x]?)->(∀row,row∈rows->row.length=k)->
   (∀(i j:Nat) (row:List V) (c:V),rows[i]? = some row->row[j]? = some c->∃v,old (i*k+j)=some v/\eU m β w (bl (i*k+j)) c v/\v.oneCell'=true)->
   (∀p,p<n*k->arr'[off+p]? = old p)->(∀p,p<rows2.length*k->arr'[off+(n*k+p)]? = news[p]?)->
   ∀(i j:Nat) (row:List V) (c:V),rows'[i]? = some row->row[j]? = some c->∃v,arr'[off+(i*k+j)]? = some v/\eU m β' w' (bl (i*k+j)) c v/\v.oneCell'=true:=by
  intro β' w' bl off old arr' hle hbl h5 h6 ha hb' i j row c hi hj;have hrk:=hrows' row (ay9 hi) h5;have hjk:j<k:=by rw[<-hrk];exact(bd9.1 hj).1
  rw[<-hr,bu9] at hi
  have hmul:∀p q:Nat,p<q->p*k+j<q*k:=by
   intro p q hpq
   calc p*k+j<p*k+k:=by omega
    _=(p+1)*k:=by grind
    _<=q*k:=bg9 _ hpq
  split at hi
  ·rename_i hlt;obtain⟨v,a1,a2,a3⟩:=h6 i j row c hi hj;exact⟨v,by grind,a2.mono (bB.le_refl _) hle (fun _ h=>h) (fun x hx=>hbl _ x hx),a3⟩
  ·rename_i hlt;obtain⟨v,a1,a2,a3⟩:=n5 (i - rows.length) j row c hi hj;have hi2:=(bd9.1 hi).1
   have e1:i*k+j=n*k+((i - rows.length)*k+j):=by
    rw[<-af9,<-am9];congr 2;omega
   refine⟨v,?_,.inl (a2.mono (bB.le_refl _) hle),a3⟩
   simp_all
 -- a new block
 have hlid:ak S.hp id≠.dead:=by rw[ho];simp
 have grows:∀(bl:Nat->Nat->Prop) (hBl:HE (β.hid id) bl) (olds:List Value) (base:Option Addr) (cap:Nat),a.eval s=.slice base n cap->(∀w':World,w'.heap=w.heap->(Builtin.firstCells k n (.slice base n cap)).run K.P w'=.ok olds.toArray w')->olds.length=n*k->
   n<=cap->¬n+rows2.length<=cap->(∀row,row∈rows->row.length=k)->
   (∀(i j:Nat) (row:List V) (c:V),rows[i]? = some row->row[j]? = some c->∃v,olds[i*k+j]? = some v/\eU m β w (bl (i*k+j)) c v/\v.oneCell'=true)->
   ∃v w' m' β',((execOp a.eval ⟨some d,.call ⟨.builtin .append,#[s,x],#[T,T']⟩,ty,pos,after,g⟩).run K.P w=.ok (.value v) w'\/v=undef/\(execOp a.eval ⟨some d,.call ⟨.builtin .append,#[s,x],#[T,T']⟩,ty,pos,after,g⟩).run K.P w=.ok .skip w')/\
    bX K m' β' w' (a.put (some d) v) ⟨(d,.own idn n')::S.env,(idn,.arr e k rows')::(id,.dead)::S.hp,nx'⟩:=by
  intro bl hBl olds base cap hsx hold hol hcap hfit h5 h6;obtain⟨q1,_,q3⟩:=Bv (mm:=rows2.length) hpos hcap hfit (by grind);obtain⟨cap',arr',b1,b2,b3,b4,b5⟩:=jQ (ty:=ty) hT hT' rfl (hold { w with drawn:=w.drawn+1 } rfl) (n1 w rfl).1 (n1 { w with drawn:=w.drawn+1 } rfl).2 hol n2 hfit q1 q3;have r1:=(r.drawn (w.drawn+1) (al9 _)).kill id
  have hdd:∀i,ak ((id,.dead)::S.hp) i≠.dead->ak S.hp i≠.dead/\i≠id:=by
   intro i hi;rw[av] at hi;split at hi
   ·grind
   ·grind
  obtain⟨β',hle,hnx,r2⟩:=r1.allocG idn nx' (hfree m β w a r).1 (hfree m β w a r).2 hidn hnn (.cells arr' e (0,0)) (.arr e k rows') ⟨cap',0⟩ _ rfl (β.hid id)
   (fun x hx=>let q:=r.hid id x hlid hx;⟨q.lt,q.m,q.old,fun i b c hi hb=>q.ne i b c (hdd i hi).1 hb,fun i hi hx'=>(hdd i hi).2 (q.un i (hdd i hi).1 hx')⟩) (fun β' hle=>by
   refine jU (vs:=arr') bl hBl (by simp) (by grind) (by grind) b3 (fun row h=>hrows' row h h5) ?_;refine hcells β' _ bl 0 (fun p=>olds[p]?) arr' hle (fun p x hx=>?_) h5 h6 ?_ ?_
   ·have:=(r.hid id x hlid (hBl.1 p x hx)).lt
    grind
   ·grind
   grind)
  refine⟨.slice (some ⟨w.heap.size,0,none⟩) n' cap',{ w with drawn:=w.drawn+1,heap:=w.heap.push (.cells arr' e (0,0)) },m,β',.inl ?_,?_⟩
  ·grind
  ·exact bX.put r2 hN (.own hnx)
 generalize hsx:a.eval s=sx at hsv;cases hsv with
 |imm h=>cases h
 | @ownNil _ ad hbn=>
  have h0:=r.own id;rw[hbn,ho] at h0;have h0:rows=[]:=h0;subst h0;by_cases hfit:0+rows2.length<=0
  ·have h2:rows2=[]:=ay8.1 (by omega);subst h2;have h3:rows'=[]:=by rw[<-hr];rfl
   subst h3;have hn0:n'=0:=by simpa using hn'.symm
   subst hn0;obtain⟨β',hle,hnx,r2⟩:=r.moveG id idn nx' (hfree m β w a r).1 (hfree m β w a r).2 hidn hnn ho (by simp) (by simp);refine⟨.slice ad 0 0,w,m,β',.inl ?_,bX.put r2 hN (.ownNil (by grind))⟩;refine hop _ _ ?_;rw[hsx];obtain⟨i,z,hu,hi,hs',hby,hz,hzk⟩:=eX hT;have hk:K.P.cellsOf e=k:=by simp[Program.cellsOf,hi,hs']
   obtain⟨q1,q2⟩:=n1 w rfl;have hnews:news=[]:=ay8.1 (by grind);subst hnews;simp only[bs9] at q2;rcases oq hT' with ⟨e',hu'⟩|hu'
   all_goals
    simp only[Builtin.append_,bh8,bo9,bt9,Sem.run_bind,run_underlying hu,Result.andThen_ok,run_sizeOf w hi,hk,run_underlying hu',pure,Sem.run,
     cj8,if_false,q1,bs9,bg8,ae9,if_true,bw8]
    cases ad<;>simp[q2,storeCells,pure,Sem.run]
  ·exact grows _ j7 [] ad 0 hsx (fun w' _=>by cases ad<;>simp[Builtin.firstCells,loadCells,loadCellsFrom,pure]) (by simp) (ai8 _) hfit (by simp) (by simp)
 | @own _ _ b cap hbb=>
  obtain⟨arr,bl,h1,h2,h3,h4,h5,hBl,h6⟩:=r.obj hbb ho;have hnk:cap.off+n*k<=arr.size:=by rw[h2,<-hn];have:=bg9 k h3;omega
  by_cases hfit:n+rows2.length<=cap.n
  ·have hrun:=kU (ty:=ty) hT hT' h1 h2 (n1 w rfl).1 (n1 w rfl).2 n2 n3 hfit
   have hle2:cap.off+n*k+news.length<=arr.size:=by
    have:n*k+rows2.length*k<=cap.n*k:=by rw[<-am9];exact bg9 _ hfit
    rw[n2,h2];omega
   have hgt:∀p,(arr.toList.take (cap.off+n*k)++news++arr.toList.drop (cap.off+n*k+news.length)).toArray[p]? = if cap.off+n*k<=p/\p<cap.off+n*k+news.length then news[p - (cap.off+n*k)]? else arr[p]?:=by
    intro p;rw[bh8,iG _ _ _ (by grind)]
    grind
   have r1:=r.update (id:=id) (ob:=.arr e k rows') (by grind) hbb (w.setRow b (arr.toList.take (cap.off+n*k)++news++arr.toList.drop (cap.off+n*k+news.length)).toArray) (fun b' hb'=>lM hb') (by simp[World.setRow]) ⟨rfl,rfl,rfl,trivial⟩ (fun hkeep=>by
    refine jU bl hBl (gj h1) ?_ (by grind) h4 (fun row h=>hrows' row h h5) ?_
    ·grind
    ·refine hcells β _ bl cap.off (fun p=>arr[cap.off+p]?) _ (ba.le_refl _) (fun p x hx=>hkeep x (hBl.1 p x hx)) h5 h6 ?_ ?_
     ·grind
     grind)
   obtain⟨β',hle,hnx,r2⟩:=r1.moveG id idn nx' (hfree m β w a r).1 (hfree m β w a r).2 hidn hnn (ob:=.arr e k rows') (by rw[av];simp) (by simp) (by simp)
   have r3:bX K m β' (w.setRow b (arr.toList.take (cap.off+n*k)++news++arr.toList.drop (cap.off+n*k+news.length)).toArray) a ⟨S.env,(idn,.arr e k rows')::(id,.dead)::S.hp,nx'⟩:=by
    have hsame:∀i,ak ((idn,Ob.arr e k rows')::(id,.dead)::(id,.arr e k rows')::S.hp) i=ak ((idn,Ob.arr e k rows')::(id,.dead)::S.hp) i:=by
     intro i;simp only[av];by_cases q1:idn=i
     ·grind
     ·grind
    exact⟨r2.imm,r2.ext,r2.mold,r2.frame,r2.size,r2.same,r2.tn,r2.df,r2.env,fun i=>by have:=r2.own i;grind,
     fun i b c h=>r2.priv i b c (by grind),fun i i' b c c' h h'=>r2.inj i i' b c c' (by grind) (by grind),
     fun i x h hx=>let q:=r2.hid i x (by grind) hx;⟨q.lt,q.m,q.old,fun i' b c h'=>q.ne i' b c (by grind),fun i' h'=>q.un i' (by grind)⟩,r2.nx,r2.pin⟩
   refine⟨.slice (some ⟨b,cap.off,none⟩) n' cap.n,w.setRow b (arr.toList.take (cap.off+n*k)++news++arr.toList.drop (cap.off+n*k+news.length)).toArray,m,β',.inl ?_,bX.put r3 hN (.own (by grind))⟩
   grind
  ·refine grows bl hBl ((arr.toList.drop cap.off).take (n*k)) (some ⟨b,cap.off,none⟩) cap.n hsx (fun w' hw'=>?_) (by simp;omega) (by omega) hfit h5 ?_
   ·have:=iH (P:=K.P) (w:=w') (ad:=⟨b,cap.off,none⟩) (n:=n) (c:=cap.n) (k:=k) (fun j=>arr.getD (cap.off+j) undef) (fun j hj=>by
     rw[dX,bW (arr:=arr) (T:=e) (fr:=(0,0)) (by grind)];have:cap.off+j<arr.size:=by omega
     simp_all)
    rw[this]
    congr 2
    apply at9;intro j;rw[az8,bi9];by_cases hj:j<n*k
    ·rw[ba9 hj,if_pos hj,av9];have:cap.off+j<arr.size:=by omega
     simp_all
    grind
   ·intro i j row c hi hj;obtain⟨v,a1,a2,a3⟩:=h6 i j row c hi hj;refine⟨v,?_,a2,a3⟩;rw[bi9,if_pos]
    ·grind
    ·have hrk:=h5 row (ay9 hi);have hjk:j<k:=by rw[<-hrk];exact(bd9.1 hj).1
     calc i*k+j<i*k+k:=by omega
      _=(i+1)*k:=by grind
      _<=n*k:=bg9 _ (by grind)
theorem oZ{d T T' e k bytes n':Nat}{x:Operand}{sv:V}(rows':List (List V))(hT:eQ K.P T e k bytes=true)(hT':cQ K.P T'=true)
  (hpos:Nat.blt 0 bytes=true) (hkp:Nat.blt 0 k=true)
  (hw:aN ops S ⟨some d,.call ⟨.builtin .append,#[.const (.slice none 0 0),x],#[T,T']⟩,ty,pos,after,g⟩ true)
  (hx:evl K S x=sv) (hsrc:xE ⟨S.env,(S.nx,.arr e k [])::S.hp,S.nx+1⟩ k sv rows') (hn':rows'.length=n') (hb:n'*bytes<=140737488355328) (hN:Nat.blt d K.N=true)
  (kk:ay K ops rest Q ⟨(d,.own (S.nx+1) n')::S.env,(S.nx+1,.arr e k rows')::(S.nx,.dead)::(S.nx,.arr e k [])::S.hp,S.nx+2⟩):
  ay K ops (⟨some d,.call ⟨.builtin .append,#[.const (.slice none 0 0),x],#[T,T']⟩,ty,pos,after,g⟩::rest) Q S:=
 uj (S:=⟨S.env,(S.nx,.arr e k [])::S.hp,S.nx+1⟩) (id:=S.nx) (n:=0) (rows:=[]) (S.nx+1) (S.nx+2) (fun _ _ _ _ r=>⟨r.nx _ (ae9 _),fun q hq=>ak9 (r.pin q hq).1⟩) (ak8 _) (al9 _) rows' rows' hT (nB hT') hpos hkp hw
  (fun m β w a r=>by
   obtain⟨β',h1,h2⟩:=r.nilO e k;exact⟨β',h1,.ownNil h2⟩) mK rfl (by cases x<;>exact hx) hsrc (by simp) hn' (.inl hb) hN kk
end
theorem D6{τ:Type}{D E:τ->List V}(e:Nat)(hu:Oa D E):∀o:Option τ,um (qK e D o) (vX E o)
 |none=>.imm rfl
 |some x=>.pt (hu x).1 (fun j c c' h1 h2=>((hu x).2 j c c' h1 h2).1)
theorem uZ{τ:Type}{D:τ->List V}(e:Nat):∀o:Option τ,dC (qK e D o)
 |none=>(aw.con _).2
 |some x=>dC.dpt _ _
theorem ag.holePT{κ τ:Type}[DecidableEq κ]{E:κ×Option τ->Value×V}[i:MR E]{k0:κ}{k k' j i':Nat}{τi:Nat->Nat}{xs:List (κ×Option τ)}(hn:Nat.blt j k'=true)(hj:τi j=i'):
  ag (To k' τi) (.map (Go.Pv.holeP E (.ptr i' k 0 0) k0 xs)) (.map (Go.Pv.holeP E (.ptr j k 0 0) k0 xs)):=
 ag.holeP E k0 (jb.sub (ai.ptrT hn hj) rfl) (fun p=>jb.same jI.h (ai.kpT (i.h p))) xs
section
variable{K:cR}{Q:ca}{S S':St}
variable{ops:Array Oper}{rest:List Oper}{ty:TypeId}{pos:String}{after:Array Edge}{g:Option (Nat×Bool)}
end
section
variable{K:cR}{Q:ca}{S S':St}{s:List It}
variable{ops:Array Oper}{rest:List Oper}{ty:TypeId}{pos:String}{after:Array Edge}{g:Option (Nat×Bool)}
theorem tj{d f:Nat}{first:Array Operand}(fs:List V)(hw:aN ops S ⟨some d,.makeFunc (.func f) first #[],ty,pos,after,g⟩ true)
  (hc:first.toList.map (evl K S)=fs) (hN:Nat.blt d K.N=true) (kk:ay K ops rest Q (S.put d (.fn (.func f) fs []))):
  ay K ops (⟨some d,.makeFunc (.func f) first #[],ty,pos,after,g⟩::rest) Q S:=
 aX _ hw hN (fun m β w a r=>by
  refine⟨.func (.func f) (first.map a.eval) #[],by simp_all[execOp,Instr.makeFunc],.fn (by grind) Y (fun i c v h1 h2=>?_) (by simp)⟩;rw[<-hc,az8] at h1;rw[cb8] at h2;cases hx:first[i]? with
  |none=>grind
  |some x=>
   simp[hx] at h1 h2;subst h1;subst h2;exact r.reads x) kk
theorem rfC{c:Code}(h:iC K c (post K Q s) S):WG K Q (.c c::s) S:=h
theorem wP(h:post K Q s .normal S):WG K Q s S:=h
end
def tY{τ:Type}(enc:τ->List V)[i:EI enc](y:τ):aU:=⟨enc y,i.h y,i.o y⟩
theorem Da{τ:Type}{enc:τ->List V}:∀o:Option τ,(vX enc o).deep=false
 |none=>rfl
 |some _=>rfl
end Go.Pv
namespace Go.Pv
open Go Go.RowKit Go.Maps Go.Sort Go.Proofs
def qc{τ:Type}(xs:List (B8×τ)):Option (List B8):=
 if xs.length*16<=140737488355328/\(∀p,p∈xs->p.1.length<=140737488355328) then some (dU (xs.map (·.1))) else none
def nu(v:Value):Option (DataW Unit×List MemPlace):=some (.lit (.bool true),[])
theorem F5{P:Program}{m:bB}{w:World}{k:TypeId}{xs:List B8}{es:List (Value×V)}{v:Value}(hk:P.underlying k=some .string)(himm:∀(b:Nat) o,m b=some o->w.heap[b]? = some o)(he:es.map (·.1)=xs.map str)
  (hn:xs.length<=maxLen) (hl:∀x,x∈xs->x.length<=maxLen) (h:bN m (.imap es) v):
  ∃b D,v=.map (some b)/\b<w.heap.size/\w.ownsMap P k nu b xs.length D/\(strKeys D).Perm xs/\Maps.size D=xs.length:=by
 cases h with
 | @imap es b ents clock hm hln hkk h=>
 obtain⟨E,h1,h2,h3⟩:=hm
 have hkeys:ents.toList.map (·.key)=xs.map str:=by
  rw[<-he];apply at9;intro i;rw[az8,az8];cases hi:es[i]? with
  |none=>
   grind
  |some p=>
   grind
 have hsz:E.size=xs.length:=by
  have a1:=h2.length_eq;have a2:=congrArg List.length hkeys;simp at a1 a2;omega
 have hread:∀e∈E.toList,∃x,x∈xs/\e.key=str x:=by
  intro e hE;have:e∈ents.toList:=h2.mem_iff.2 hE;have:e.key∈ents.toList.map (·.key):=bo8 this;rw[hkeys] at this;obtain⟨x,hx,e2⟩:=bf9.1 this;exact⟨x,hx,e2.symm⟩
 have hrd:∀e∈E.toList,∀x,x.length<=maxLen->e.key=str x->WideElems.rd P k nu e=some (.string x,.lit (.bool true)):=by
  intro e _ x hx hex
  have:keyOf P k e.key=some (.string x):=by
   rw[hex];unfold keyOf;rw[hk];simp only[mapKey,hk];simp[ByteArray.size,hx]
  unfold WideElems.rd;rw[this];rfl
 refine⟨b,.map ((E.toList.map (WideElems.rg P k nu)).foldr DataW.insert []),rfl,bD (himm _ _ h1),⟨E,clock,himm _ _ h1,⟨by omega,⟨fun x hx=>h3.lt x hx,h3.born,h3.key⟩,fun x hx=>?_⟩,by omega,rfl⟩,?_,?_⟩
 ·grind
 ·have p1:=Go.WideShapes.sorted_perm (E.toList.map (WideElems.rg P k nu));have p2:(strKeys (DataW.map ((E.toList.map (WideElems.rg P k nu)).foldr DataW.insert []))).Perm ((E.toList.map (WideElems.rg P k nu)).map fun p=>strOf p.1):=p1.map _;refine p2.trans ?_;rw[bf8];have p3:(E.toList.map ((fun p=>strOf p.1) ∘ WideElems.rg P k nu)).Perm (ents.toList.map ((fun p=>strOf p.1) ∘ WideElems.rg P k nu)):=(h2.symm).map _;refine p3.trans (List.Perm.of_eq ?_);apply at9;intro i;have hk2:=congrArg (fun l=>l[i]?) hkeys;simp only[az8] at hk2 ⊢;cases hi:xs[i]? with
  |none=>grind
  |some x=>
   rw[hi] at hk2;cases hx:ents.toList[i]? with
   |none=>grind
   |some e=>
    rw[hx] at hk2;simp only[ba8,ax9] at hk2 ⊢;have hmem:e∈E.toList:=h2.mem_iff.1 (ay9 hx);have:=hrd e hmem x (hl x (ay9 hi)) hk2
    simp_all[WideElems.rg,strOf]
 ·rw[size_eq];rw[(Go.WideShapes.sorted_perm _).length_eq,bj9]
  grind
section
variable{K:cR}{Q:ca}{S:St}
variable{ops:Array Oper}{rest:List Oper}{ty ty2:TypeId}{pos pos2:String}{after after2:Array Edge}{g g2:Option (Nat×Bool)}
theorem qP{ρ6 ρ7 ρ10:Go.Shelf.Ren}(L6:Go.Proofs.SlLaysZ.n6 K.P ρ6)(L7:Go.Proofs.SlLaysZ.n7 K.P ρ7)(L10:Go.Proofs.SlLaysZ.n10 K.P ρ10){f6 f7 f10 f9:Nat}{d1 d2:Nat}{x:Operand}{at1 at2:Array TypeId}{es:List (Value×V)}(xs:List B8)
  (e6:ρ6.f 6=f6) (e9:ρ6.f 9=f9) (e7:ρ7.f 7=f7) (e10:ρ7.f 10=f10) (e10':ρ10.f 10=f10) (et:ρ10.t 26=ρ6.t 26)
  (hs1:∀(blk off cap:Nat) (zs:List B8) (w:World),Holds str w blk off zs.toArray->blk<w.heap.size->zs.length<4611686018427387904->Calls K.P f9 #[.slice (some ⟨blk,off,none⟩) zs.length cap] w fun e w'=>
   e=.returned (.tuple #[])/\∃n os,w'=grow (putRow str (Sort.ahead w n) blk off (zs.mergeSort fun x y=>decide (x<=y)).toArray) os)
  (hs2:∀(p:Option Addr) (cap:Nat) (w:World),Calls K.P f9 #[.slice p 0 cap] w fun e w'=>e=.returned (.tuple #[])/\w'=w)
  (ef7:cE K.P f7=true) (ef6:cE K.P f6=true) (ef9:∀args w,(callFunc f9 args).run K.P w=.ok (.enter f9 args) w)
  (hc:xs.length*16<=140737488355328/\∀x,x∈xs->x.length<=140737488355328) (he:es.map (·.1)=xs.map str)
  (hw1:aN ops S ⟨some d1,.call ⟨.value (.func f7),#[x],at1⟩,ty,pos,after,g⟩ true) (hw2:aN ops (S.put d1 .any) ⟨some d2,.call ⟨.value (.func f6),#[.tmp d1],at2⟩,ty2,pos2,after2,g2⟩ true)
  (hx:evl K S x=.imap es) (hN1:Nat.blt d1 K.N=true) (hN2:Nat.blt d2 K.N=true)
  (kk:ay K ops rest Q ((S.put d1 .any).put d2 (.lst 1 ((dU xs).map fun s=>[sV s])))):
  ay K ops (⟨some d1,.call ⟨.value (.func f7),#[x],at1⟩,ty,pos,after,g⟩::⟨some d2,.call ⟨.value (.func f6),#[.tmp d1],at2⟩,ty2,pos2,after2,g2⟩::rest) Q S:=by
 subst e6 e9 e7 e10;have hml:(140737488355328:Nat)<=maxLen:=by unfold maxLen;decide
 intro m β w a r;unfold wpListIn;rw[if_pos (hw1.at r)];obtain⟨vs,h1,h2⟩:=te (d:=some d1) (at':=at1) (ty:=ty) (pos:=pos) (after:=after) (g:=g) ef7 (args:=#[x]) (avs:=[.imap es]) (by simp[hx]) (.cons (aw.imap _) .nil) m β w a r
 have hvs:∃v,vs=#[v]/\bN m (.imap es) v:=by
  have hl:=h2.len;obtain⟨l⟩:=vs
  match l,hl with
  |[v],_=>exact⟨v,rfl,h2.at' 0 _ _ rfl rfl⟩
 obtain⟨v,rfl,hv⟩:=hvs;obtain⟨b,D,rfl,hb,hown,hperm,hsize⟩:=F5 L10.t26 r.imm he (bw9 (by omega) hml) (fun y hy=>bw9 (hc.2 y hy) hml) hv;refine fY (.inr (kr h1 (fun d e=>by cases e))) ?_;unfold Oper.wp;rw[h1];refine(callsIn_wide.1 (AnyZ.keys_in L7 Fence.wide 1 trivial Y (some b) w)).mono ?_
 rintro e w1 ⟨rfl,rfl⟩
 simp only[]
 have g1:ur m m w (w.alloc (.cells #[.map (some b)] (ρ7.t 23))):=⟨bB.le_refl _,fun c o h=>by
   have hh:=r.imm c o h;have:=bD hh
   show((w.heap.push _))[c]? = _
   grind,fun _ _=>rfl,fun c hc=>by
   show((w.heap.push _))[c]? = _
   grind,by simp,⟨rfl,rfl,rfl,trivial⟩⟩
 have r1:=(r.grow g1).put hN1 (dv:=.any) (v:=.func (.func (ρ7.f 10)) #[] #[.pointer (some ⟨w.heap.size,0,none⟩)]) (.imm (.any _))
 show wpListIn _ _ _ _ _ _ _ _
 unfold wpListIn;rw[if_pos (hw2.at r1)]
 have hev:(a.put (some d1) (.func (.func (ρ7.f 10)) #[] #[.pointer (some ⟨w.heap.size,0,none⟩)])).eval (.tmp d1)=.func (.func (ρ7.f 10)) #[] #[.pointer (some ⟨w.heap.size,0,none⟩)]:=by
  have hlt:d1<a.tmps.size:=by rw[r.tn];exact ax8 hN1
  simp[Act.put,Act.eval,hlt]
 have h3:(execOp (a.put (some d1) (.func (.func (ρ7.f 10)) #[] #[.pointer (some ⟨w.heap.size,0,none⟩)])).eval ⟨some d2,.call ⟨.value (.func (ρ6.f 6)),#[.tmp d1],at2⟩,ty2,pos2,after2,g2⟩).run K.P (w.alloc (.cells #[.map (some b)] (ρ7.t 23)))=.ok (.enter (ρ6.f 6) #[.func (.func (ρ7.f 10)) #[] #[.pointer (some ⟨w.heap.size,0,none⟩)]]) (w.alloc (.cells #[.map (some b)] (ρ7.t 23))):=by
  have hef:(a.put (some d1) (.func (.func (ρ7.f 10)) #[] #[.pointer (some ⟨w.heap.size,0,none⟩)])).eval (.func (ρ6.f 6))=.func (.func (ρ6.f 6)) #[] #[]:=rfl;simp only[execOp,resolve,bl8,bm9,ap8,hev,hef,Deferred.ofValue,invoke,Sem.run_bind,pure,Sem.run,Result.andThen_ok];simp[fE ef6]
 refine fY (.inr (kr h3 (fun d e=>by cases e))) ?_;unfold Oper.wp;rw[h3];have e10f:∀args w,(callFunc (ρ7.f 10) args).run K.P w=.ok (.enter (ρ7.f 10) args) w:=fun args w=>by rw[<-e10'];exact L10.f10.enters Y args w
 have hown1:(w.alloc (.cells #[.map (some b)] (ρ7.t 23))).ownsMap K.P (ρ10.t 26) nu b xs.length D:=by
  obtain⟨es',clock,q1,q2⟩:=hown;exact⟨es',clock,by rw[<-q1];exact g1.heap b hb,q2⟩
 have hbx:(w.alloc (.cells #[.map (some b)] (ρ7.t 23))).heap[w.heap.size]? = some (.cells #[.map (some b)] (ρ7.t 23)):=by
  show(w.heap.push _)[_]? = _
  simp
 have hcb:(w.alloc (.cells #[.map (some b)] (ρ7.t 23))).cell? ⟨w.heap.size,0,none⟩=some (.map (some b)):=by
  simp only[World.cell?,hbx];rfl
 have hg:=AnyZ.keys_gives L10 Fence.wide 1 trivial rfl (ae9 _) w.heap.size b xs.length D (R:=nu) (w.alloc (.cells #[.map (some b)] (ρ7.t 23))) (by simp) hcb hown1;rw[e10'] at hg;refine(callsIn_wide.1 (AnyZ.sorted_in L6 Fence.wide 4 trivial trivial trivial trivial Y (ae9 _) ⟨fun blk off cap ss W q1 q2 q3=>callsIn_wide.2 (hs1 blk off cap ss W q1 q2 q3),fun p cap W=>callsIn_wide.2 (hs2 p cap W)⟩ ef9 (ρ7.f 10) _ trivial e10f _ (Maps.size D) (by grind) (by grind) _ hg)).mono ?_
 rintro e w2 ⟨v2,ss,rfl,hss,hrow,hnil,hbel⟩
 have hts:ss.mergeSort (fun x y=>decide (x<=y))=dU xs:=mergeSort_of_perm (hss.trans hperm);rw[hts] at hrow;have hsl:ss.length=xs.length:=by rw[(hss.trans hperm).length_eq]
 have htl:(dU xs).length=xs.length:=List.length_mergeSort _;simp only[];rcases hrow.2 with ⟨rfl,hz⟩|⟨gb,cap,cur,rfl,hbase,hgb,q1,q2,q3,q4⟩
 ·have hx0:xs=[]:=ay8.1 (by omega);subst hx0;refine kk m β w2 _ ((r1.grow (sI r1.imm hbel trivial)).put hN2 (.imm ?_))
  show bN m (.lst 1 ((dU []).map _)) _
  rw[show dU []=[] from ay8.1 htl];exact .nil _ _ _
 ·let m':bB:=fun c=>if c=gb then some (.cells cur (ρ6.t 26) (0,0)) else m c
  have hnone:m gb=none:=by
   cases hm:m gb with
   |none=>rfl
   |some o=>have:=bD (r1.imm _ _ hm);omega
  have hle:m.le m':=by
   intro c o h;have:c≠gb:=by intro e;rw[e,hnone] at h;cases h
   show(if _ then _ else _)=_
   rw[if_neg this];exact h
  have gr:ur m m' (w.alloc (.cells #[.map (some b)] (ρ7.t 23))) w2:=by
   refine⟨hle,fun c o h=>?_,fun c hc=>?_,hbel.block,hbel.size,⟨hbel.os,hbel.tape,hbel.output,trivial⟩⟩
   ·by_cases ec:c=gb
    ·grind
    ·have:m' c=m c:=by show(if _ then _ else _)=_;grind
     rw[this] at h;rw[hbel.block c (bD (r1.imm c o h))];exact r1.imm c o h
   ·grind
  refine kk m' β w2 _ ((r1.grow gr).put hN2 (.imm ?_))
  have hcur:∀(i:Nat) (y:B8),(dU xs)[i]? = some y->cur[i]? = some (str y):=by
   intro i y hy;have h5:=congrArg (fun l=>l[i]?) q4;simp only[Nat.mul_one,az8,hy,ba8,bi9] at h5;split at h5
   ·grind
   ·cases h5
  refine .lst (arr:=cur) (T:=ρ6.t 26) (fr:=(0,0)) (fun i=>(cur[i]?).getD undef) (show(if _ then _ else _)=_ by grind) Y (by grind) q1 (bw9 q1 q2) ?_ ?_ ?_
  ·grind
  ·grind
  ·intro i j row c hi hj;rw[az8] at hi;cases hy:(dU xs)[i]? with
   |none=>grind
   |some y=>
    rw[hy] at hi;simp only[ba8,ax9] at hi;subst hi;cases j with
    |succ j=>simp at hj
    |zero=>
     simp only[bo9,ax9] at hj;subst hj;rw[Nat.mul_one,bg8,hcur i y hy];exact .con _
end
end Go.Pv
namespace Go.Pv
open Go Go.RowKit Go.Maps Go.Sort Go.Proofs
theorem zR{τ:Type}{xs:List (B8×τ)}{l:List B8}(h:qc xs=some l):(xs.length*16<=140737488355328/\∀p,p∈xs->p.1.length<=140737488355328)/\l=dU (xs.map (·.1)):=by
 grind [qc]
section
variable{K:cR}{Q:ca}{S:St}
variable{ops:Array Oper}{rest:List Oper}{ty ty2:TypeId}{pos pos2:String}{after after2:Array Edge}{g g2:Option (Nat×Bool)}
theorem oR{τ:Type}{enc:B8->List V}{E:B8×τ->Value×V}{xs:List (B8×τ)}{l:List B8}(hl:qc xs=some l)(henc:∀s,enc s=[sV s])(hE:∀p,(E p).1=str p.1)
  {ρ6 ρ7 ρ10:Go.Shelf.Ren} (L6:Go.Proofs.SlLaysZ.n6 K.P ρ6) (L7:Go.Proofs.SlLaysZ.n7 K.P ρ7) (L10:Go.Proofs.SlLaysZ.n10 K.P ρ10) {f6 f7 f10 f9:Nat} {d1 d2:Nat} {x:Operand} {at1 at2:Array TypeId}
  (e6:ρ6.f 6=f6) (e9:ρ6.f 9=f9) (e7:ρ7.f 7=f7) (e10:ρ7.f 10=f10) (e10':ρ10.f 10=f10) (et:ρ10.t 26=ρ6.t 26)
  (hs1:∀(blk off cap:Nat) (zs:List B8) (w:World),Holds str w blk off zs.toArray->blk<w.heap.size->zs.length<4611686018427387904->Calls K.P f9 #[.slice (some ⟨blk,off,none⟩) zs.length cap] w fun e w'=>
   e=.returned (.tuple #[])/\∃n os,w'=grow (putRow str (Sort.ahead w n) blk off (zs.mergeSort fun x y=>decide (x<=y)).toArray) os)
  (hs2:∀(p:Option Addr) (cap:Nat) (w:World),Calls K.P f9 #[.slice p 0 cap] w fun e w'=>e=.returned (.tuple #[])/\w'=w)
  (ef7:cE K.P f7=true) (ef6:cE K.P f6=true) (ef9:cE K.P f9=true)
  (hw1:aN ops S ⟨some d1,.call ⟨.value (.func f7),#[x],at1⟩,ty,pos,after,g⟩ true) (hw2:aN ops (S.put d1 .any) ⟨some d2,.call ⟨.value (.func f6),#[.tmp d1],at2⟩,ty2,pos2,after2,g2⟩ true)
  (hx:evl K S x=.imap (xs.map E)) (hN1:Nat.blt d1 K.N=true) (hN2:Nat.blt d2 K.N=true)
  (kk:ay K ops rest Q ⟨(d2,.lst 1 (l.map enc))::(d1,.any)::S.env,S.hp,S.nx⟩):
  ay K ops (⟨some d1,.call ⟨.value (.func f7),#[x],at1⟩,ty,pos,after,g⟩::⟨some d2,.call ⟨.value (.func f6),#[.tmp d1],at2⟩,ty2,pos2,after2,g2⟩::rest) Q S:=by
 obtain⟨⟨h1,h2⟩,rfl⟩:=zR hl;refine qP L6 L7 L10 (xs.map (·.1)) e6 e9 e7 e10 e10' et hs1 hs2 ef7 ef6 (fun args w=>fE ef9 args) ⟨by grind,fun y hy=>?_⟩ ?_ hw1 hw2 hx hN1 hN2 ?_
 ·grind
 ·simp_all
 ·have:enc=fun s=>[sV s]:=funext henc;rw[this] at kk;exact kk
end
end Go.Pv
namespace Go.Pv
open Go Go.RowKit Go.Sort
theorem yl{gl:Gl}{P:Program}{f:FuncId}{k id:Nat}{hp:aC}{e:TypeId}{α:Type}[Inhabited α](enc:α->Value)(h1c:∀x,(enc x).oneCell'=true)(l l' zs:List α)(fvs:List V)(hid:ak hp id=.arr e 1 (l.map fun x=>[V.con (enc x)]))(hl:(l'++zs).length=l.length)
  (h:∀(m:bB) (β:ba) (w:World) (us:List Value) (blk off cap:Nat),iY m β fvs us.toArray->(∀q,bn m β w (β.hid q) (β q) (ak hp q))->(∀b o,m b=some o->w.heap[b]? = some o)->(∀q b' cap',q≠id->ak hp q≠.dead->β q=some (some (b',cap'))->b'≠blk)->m blk=none->Holds enc w blk off l.toArray->blk<w.heap.size->l.length<=cap->cap<=maxLen->Calls P f (Value.slice (some ⟨blk,off,none⟩) l.length cap::us).toArray w fun e w'=>
   e=.returned (.slice (some ⟨blk,off,none⟩) l'.length cap)/\∃n os,w'=grow (putRow enc (Sort.ahead w n) blk off (l'++zs).toArray) os)
  (hn:∀(m:bB) (β:ba) (w:World) (us:List Value) (a:Option Addr),iY m β fvs us.toArray->(∀q,bn m β w (β.hid q) (β q) (ak hp q))->(∀b o,m b=some o->w.heap[b]? = some o)->l=[]->Calls P f (Value.slice a 0 0::us).toArray w fun e w'=>e=.returned (.slice a 0 0)/\Below w.heap.size w w'/\True):
  fV gl P f (.own id l.length::fvs) k hp (.own id l'.length) k ((id,.arr e 1 (l'.map fun x=>[V.con (enc x)]))::hp):=by
 intro m β w vs himm _ hargs hown hpriv hinj hhid hnx;obtain⟨vs⟩:=vs
 match vs,hargs with
 |[],hargs=>exact absurd hargs.len (by simp)
 |v::u,hargs=>
 have hu:iY m β fvs u.toArray:=⟨by have:=hargs.len;simpa using this,fun i c x h1 h2=>hargs.at' (i+1) c x (by simpa using h1) (by simpa using h2)⟩;have hv:=hargs.at' 0 _ _ rfl rfl;have hob:=hown id;rw[hid] at hob;have hg:∀q,ak ((id,Ob.arr e 1 (l'.map fun x=>[V.con (enc x)]))::hp) q=if id=q then Ob.arr e 1 (l'.map fun x=>[V.con (enc x)]) else ak hp q:=fun q=>av _ _ _ _
 have hlive:∀q,ak ((id,Ob.arr e 1 (l'.map fun x=>[V.con (enc x)]))::hp) q≠.dead->ak hp q≠.dead:=fun q hq=>by
  rw[hg] at hq;split at hq
  ·rename_i hh;subst hh;rw[hid];simp
  ·exact hq
 have hhids:∀(w':World),w.heap.size<=w'.heap.size->∀q x,ak ((id,Ob.arr e 1 (l'.map fun x=>[V.con (enc x)]))::hp) q≠.dead->β.hid q x->x<w'.heap.size/\m x=none/\(x<w.heap.size->¬c8 hp β x)/\
   (∀i b c,ak ((id,Ob.arr e 1 (l'.map fun x=>[V.con (enc x)]))::hp) i≠.dead->β i=some (some (b,c))->x≠b)/\∀i,ak ((id,Ob.arr e 1 (l'.map fun x=>[V.con (enc x)]))::hp) i≠.dead->β.hid i x->i=q:=by
  intro w' hs q x hq hx;obtain⟨q1,q2,q3,q4⟩:=hhid q x (hlive q hq) hx;exact⟨by omega,q2,fun _ hF=>(hF q (hlive q hq)).2 hx,fun i b c hi=>q3 i b c (hlive i hi),fun i hi=>q4 i (hlive i hi)⟩
 generalize hnl:l.length=n at hv h;cases hv with
 |imm h'=>cases h'
 | @ownNil _ ad hb=>
  have hl0:l=[]:=ay8.1 hnl;subst hl0
  have hl':l'=[]:=by
   have:(l'++zs).length=0:=by simpa using hl
   simp at this;exact this.1
  subst hl';refine(hn m β w u ad hu hown himm Y).mono ?_
  rintro ex w' ⟨rfl,hB,hdr⟩
  have hheap:∀b,b<w.heap.size->w'.heap[b]? = w.heap[b]?:=hB.block;refine⟨_,m,β,Y,.ownNil hb,bB.le_refl _,fun b o hb=>by rw[hheap b (bD (himm b o hb))];exact himm b o hb,fun b hb _=>⟨Y,hheap b hb⟩,hB.size,⟨hB.os,hB.tape,hB.output,hdr⟩,fun q=>?_,fun q b cap hq hbq=>?_,fun q q' b cap cap' hq hq'=>hinj q q' b cap cap' (hlive q hq) (hlive q' hq'),hhids w' hB.size,hnx,fun q hq=>⟨hq,Y⟩⟩
  ·rw[hg];split
   ·rename_i hh;subst hh;rw[hb];simp[bn]
   ·by_cases hd:ak hp q=.dead
    ·rw[hd];exact bn.dead' _
    ·exact bn.congr (fun b cap hbb=>hheap b (eL hd hbb (hown q))) (fun x hx=>hheap x (hhid q x hd hx).1) (hown q)
  ·have hq:=hlive q hq;exact⟨hpriv q b cap hq hbq,fun _ hF=>(hF q hq).1 cap hbq⟩
 | @own _ _ b cap hb=>
  rw[hb] at hob;obtain⟨arr,bl,o1,o2,o3,o4,o5,oB,o6⟩:=hob;have hbs:b<w.heap.size:=bD o1
  have hcell:∀j (hj:j<l.length),arr[cap.off+j]? = some (enc l[j]):=fun j hj=>by
   obtain⟨v,v1,v2,_⟩:=o6 j 0 [V.con (enc l[j])] (V.con (enc l[j])) (by simp[az9 hj]) rfl;have:=(v2.v rfl).of_con;subst this
   simpa using v1
  refine(h m β w u b cap.off cap.n hu hown himm (fun q b' cap' hq hd hb' e=>hq (hinj q id b cap' cap hd (by rw[hid];simp) (by rw[<-e];exact hb') hb)) (hpriv id b cap (by rw[hid];simp) hb) (fun j hj=>?_) hbs (by simpa[hnl] using o3) o4).mono ?_
  ·have hj':j<l.length:=by simpa using hj
   have hz:(l.toArray)[j]! = l[j]:=by rw[getElem!_pos _ j hj];simp
   rw[hz];exact⟨(bW o1).trans (hcell j hj'),by simp[World.frozen?,o1]⟩
  rintro ex w' ⟨rfl,nd,os,rfl⟩
  have hheap:=jh enc w nd b cap.off (l'++zs).toArray os;have hother:∀b',b'<w.heap.size->b'≠b->(grow (putRow enc (Sort.ahead w nd) b cap.off (l'++zs).toArray) os).heap[b']? = w.heap[b']?:=fun b' h1 h2=>by rw[hheap b' h1,if_neg (Ne.symm h2)]
  have hlid:ak hp id≠.dead:=by rw[hid];simp
  have hsz:w.heap.size<=(grow (putRow enc (Sort.ahead w nd) b cap.off (l'++zs).toArray) os).heap.size:=by simp[grow,putRow,mapBlock,Sort.ahead]
  refine⟨_,m,β,Y,.own hb,bB.le_refl _,fun b' o hb'=>?_,fun b' hb' hF=>⟨Y,hother b' hb' (fun e=>?_)⟩,hsz,⟨Y,Y,Y,trivial⟩,fun q=>?_,fun q b' cap' hq hbq=>?_,fun q q' b1 cap1 cap2 hq hq'=>hinj q q' b1 cap1 cap2 (hlive q hq) (hlive q' hq'),hhids _ hsz,hnx,fun q hq=>⟨hq,Y⟩⟩
  ·have hne:b'≠b:=fun e=>by
    subst e;rw[hpriv id b' cap hlid hb] at hb';simp at hb'
   rw[hother b' (bD (himm b' o hb')) hne];exact himm b' o hb'
  ·subst e;exact(hF id hlid).1 cap hb
  ·rw[hg];split
   ·rename_i hh;subst hh;rw[hb];refine⟨putCells enc cap.off (l'++zs).toArray arr,bl,by rw[hheap b hbs,if_pos rfl,o1];rfl,by simp[putCells,o2],by simp at hl o3 ⊢;omega,o4,?_,oB,fun i j row c hr hc=>?_⟩
    ·intro row hr;obtain⟨x,_,rfl⟩:=bf9.1 hr;rfl
    ·rw[az8] at hr;cases hli:l'[i]? with
     |none=>rw[hli] at hr;simp at hr
     |some x=>
      rw[hli] at hr;simp at hr;subst hr;have hi:i<l'.length:=(bd9.1 hli).1;have hx:l'[i]=x:=(bd9.1 hli).2
      have hj:j=0:=by
       have:=(bd9.1 hc).1;simp at this;exact this
      subst hj;simp at hc;subst hc;have ha:cap.off+i<arr.size:=by simp at hl o3;omega
      refine⟨enc x,?_,.inl (.imm (.con _)),h1c x⟩;rw[Nat.mul_one,bg8];unfold putCells;rw[Array.getElem?_mapIdx,bb8 ha,ba8,if_pos ⟨be8 _ _,by simp;omega⟩,Nat.add_sub_cancel_left,getElem!_pos _ i (by simp;omega)];simp[List.getElem_append_left hi,hx]
   ·by_cases hd:ak hp q=.dead
    ·rw[hd];exact bn.dead' _
    ·refine bn.congr (fun b' cap' hbb=>hother b' (eL hd hbb (hown q)) (fun e=>?_)) (fun x hx=>hother x (hhid q x hd hx).1 ((hhid q x hd hx).2.2.1 id b cap hlid hb)) (hown q);subst e;rename_i hne;exact hne (hinj id q b' cap cap' hlid hd hb hbb)
  ·have hq:=hlive q hq;exact⟨hpriv q b' cap' hq hbq,fun _ hF=>(hF q hq).1 cap' hbq⟩
end Go.Pv
