/- Part of the proof: NH, NP, Told, NQ, NS, C6Sh. -/
import Derived.Test.YtcihpgamojpcnaaGreatFewNG
import Derived.Test.YtcihpgamojpcnaaGreatFewC6Ord
import Derived.KernelRfl
import Derived.Shelf.Strconv.Itoa0
import Derived.Shelf.Sort.Plain
import Derived.Ground.Names2Prog
import Derived.Shelf.Slices.CompactI
import Derived.Shelf.Slices.SearchI
import Derived.Shelf.Slices.In.SortNone
import Derived.Ground.SlsfProg
import Derived.Shelf.SlSortCmp.WholeK
import Derived.Shelf.SlSortCmp.NoneTotal
import Derived.Test.YtcihpgamojpcnaaGreatProg
namespace Go.Proofs.YtcihpgamojpcnaaGreat
open Go Go.Pv
set_option linter.unusedVariables false
section
variable{g:TGraph}{fs:List Tx}
theorem M5_L5_ok(F:Nat)(R:RightG g)(N m:Nat)(l15:List TSite)(hl:l15.length=m)(hm:m<=1000000)(hN:N=g.Funcs.length+m+1)(k:Gr->Option (List TSite×Bool×Int)):
  ∀(el:List Tx) (E:List Eg) (ps:Dt->Nat) (G:Gr),NetI N E ps (fun _=>0) G->E.length+el.length<=1000000000->(∀e,e∈el->e∈FsG g)->
   ∃ps' G',M5_L5 F g (wOf g 1 fs) l15 k el G=k G'/\NetI N (E++el.map (fun e=>(g.Funcs.length+m,fiG g fs e,BIG))) ps' (fun _=>0) G'
 |[],E,ps,G,I,hl,ht=>⟨ps,G,rfl,by simpa using I⟩
 |x::el,E,ps,G,I,hb,ht=>by
  have hn:=R.fl
  simp only[List.length_cons] at hb
  obtain⟨i,hi,e1,e2,e3⟩:=fi_at (fs:=fs) R (ht x (by simp))
  obtain⟨ps',G',e,I'⟩:=add_ok F I (by omega) (show g.Funcs.length+m<N by omega) (show i<N by omega) (by omega) (c:=BIG) (by decide) (by decide) ([]:List Int) ([]:List Int)
  obtain⟨ps2,G2,e4,I2⟩:=M5_L5_ok F R N m l15 hl hm hN k el _ ps' G' I' (by simp;omega) (fun v hv=>ht v (List.mem_cons_of_mem _ hv))
  refine⟨ps2,G2,?_,by rw[List.map_cons,e3];simpa using I2⟩
  rw[M5_L5,hl]
  have hw:w64 (((g.Funcs.length:Nat):Int)+((m:Nat):Int))=((g.Funcs.length+m:Nat):Int):=by rw[w64_id (by omega) (by omega)];omega
  have hfi:(mget (wOf g 1 fs).funcs x).getD 0=(i:Int):=e2
  rw[hw,hfi,e,Option.bind_some]
  exact e4
theorem FsG_nodup(R:RightG g):(FsG g).Nodup:=by
 have:=srt_names (f:=fun x:TFunc=>x.Name) R.fsrt
 exact this.imp fun {a b} h=>bl_ne h
theorem SG_nodup(R:RightG g):(SG g fs).Nodup:=by unfold SG;rw[rS_eq];exact(nodup_slt (allS_srt R)).filter _
theorem nd_lt{s:TSite}(hs:s∈SG g fs):(SG g fs).idxOf s<(rL g fs).length:=by
 have:=List.idxOf_lt_length_of_mem hs
 simpa using this
theorem nd_inj{s s':TSite}(hs:s∈SG g fs)(hs':s'∈SG g fs)(h:ndG g fs s=ndG g fs s'):s=s':=by
 unfold ndG at h
 have e1:=List.getElem_idxOf (List.idxOf_lt_length_of_mem hs)
 have e2:=List.getElem_idxOf (List.idxOf_lt_length_of_mem hs')
 have e:(SG g fs).idxOf s=(SG g fs).idxOf s':=by omega
 rw[<-e1,<-e2]
 congr 1
theorem eg_at{E:List Eg}{k:Nat}(h:k<E.length):eg E k=E[k]:=by
 unfold eg;rw[List.getElem?_eq_getElem h];rfl
theorem estr_ok(R:RightG g){E:List Eg}(J:EInv g fs (rL g fs) E):
  EStr (g.Funcs.length+(rL g fs).length+1) g.Funcs.length (E++g.Entries.map (fun e=>(g.Funcs.length+(rL g fs).length,fiG g fs e,BIG))) (SG g fs) (FsG g) (·.Func) (tosP g fs) (ZG g) (ndG g fs) (fiG g fs) (g.Funcs.length+(rL g fs).length):=by
 have hfs:∀f,f∈FsG g->fiG g fs f<g.Funcs.length:=fun f hf=>by
  obtain⟨i,h,_,_,e⟩:=fi_at (fs:=fs) R hf
  omega
 have hSm:∀s,s∈SG g fs<->∃lk,lk∈rL g fs/\lk.site=s:=fun s=>by rw[List.mem_map]
 have hinF:∀s,s∈SG g fs->s.Func∈FsG g:=fun s hs=>by
  obtain⟨lk,h,rfl⟩:=(hSm s).1 hs
  exact allS_fn (List.mem_map.2 ⟨lk,rL_sub h,rfl⟩)
 have hen:∀e,e∈g.Entries->e∈FsG g:=fun e he=>by
  obtain⟨f,h1,h2⟩:=in_names.1 (R.e e he)
  exact List.mem_map.2 ⟨f,h1,h2⟩
 have hmem:∀e:Eg,e∈E++g.Entries.map (fun e=>((g.Funcs.length+(rL g fs).length,fiG g fs e,BIG):Eg)) ↔
   (∃lk,lk∈rL g fs/\(e=(fiG g fs lk.site.Func,ndG g fs lk.site,1)\/∃y,y∈FsG g/\tosP g fs lk.site y/\e=(ndG g fs lk.site,fiG g fs y,BIG)))\/∃y,y∈g.Entries/\e=(g.Funcs.length+(rL g fs).length,fiG g fs y,BIG):=by
  intro e
  rw[List.mem_append,J.mem,List.mem_map]
  constructor
  ·rintro(h|⟨y,h1,h2⟩)
   ·exact .inl h
   ·exact .inr ⟨y,h1,h2.symm⟩
  ·rintro(h|⟨y,h1,h2⟩)
   ·exact .inl h
   ·exact .inr ⟨y,h1,h2.symm⟩
 have hex:∀e:Eg,e∈E++g.Entries.map (fun e=>((g.Funcs.length+(rL g fs).length,fiG g fs e,BIG):Eg))->∃k,k<(E++g.Entries.map (fun e=>((g.Funcs.length+(rL g fs).length,fiG g fs e,BIG):Eg))).length/\eg (E++g.Entries.map (fun e=>((g.Funcs.length+(rL g fs).length,fiG g fs e,BIG):Eg))) k=e:=by
  intro e he
  obtain⟨k,hk,h⟩:=List.getElem_of_mem he
  exact⟨k,hk,by rw[eg_at hk,h]⟩
 have hpw:(E++g.Entries.map (fun e=>((g.Funcs.length+(rL g fs).length,fiG g fs e,BIG):Eg))).Pairwise (fun e e'=>g.Funcs.length<=e.2.1->e.2.1≠e'.2.1):=by
  have hlow:∀e:Eg,e∈g.Entries.map (fun e=>((g.Funcs.length+(rL g fs).length,fiG g fs e,BIG):Eg))->e.2.1<g.Funcs.length:=by
   intro e he
   obtain⟨y,hy,rfl⟩:=List.mem_map.1 he
   exact hfs y (hen y hy)
  rw[List.pairwise_append]
  refine⟨J.pw,?_,fun a ha b hb hn=>?_⟩
  ·refine List.Pairwise.imp_of_mem (R:=fun _ _=>True) (fun {a b} ha hb _ hn=>?_) (List.pairwise_of_forall (fun _ _=>trivial))
   have:=hlow a ha;omega
  ·have:=hlow b hb;omega
 refine⟨SG_nodup R,FsG_nodup R,hinF,fun s hs=>?_,hfs,rfl,by omega,fun s s' hs hs' h=>nd_inj hs hs' h,fun f f' hf hf' h=>fi_inj R hf hf' h,fun k hk=>?_,fun s hs=>?_,fun k k' hk hk' he hn=>?_,fun s y hs hy ht=>?_,fun y hy hz=>?_⟩
 ·have:=nd_lt hs
  unfold ndG
  omega
 ·rw[eg_at hk]
  rcases(hmem _).1 (List.getElem_mem hk) with ⟨lk,h1,h2|⟨y,h2,h3,h4⟩⟩|⟨y,h1,h2⟩
  ·exact .inl ⟨lk.site,(hSm _).2 ⟨lk,h1,rfl⟩,h2⟩
  ·exact .inr (.inl ⟨lk.site,y,(hSm _).2 ⟨lk,h1,rfl⟩,h2,h3,h4⟩)
  ·exact .inr (.inr ⟨y,hen y h1,h1,h2⟩)
 ·obtain⟨lk,h1,rfl⟩:=(hSm s).1 hs
  exact hex _ ((hmem _).2 (.inl ⟨lk,h1,.inl rfl⟩))
 ·rw[eg_at hk] at he hn
  rw[eg_at hk'] at he
  rcases Nat.lt_trichotomy k k' with h|h|h
  ·exact absurd he (List.pairwise_iff_getElem.1 hpw k k' hk hk' h hn)
  ·exact h
  ·exact absurd he.symm (List.pairwise_iff_getElem.1 hpw k' k hk' hk h (by rw[<-he];exact hn))
 ·obtain⟨lk,h1,rfl⟩:=(hSm s).1 hs
  exact hex _ ((hmem _).2 (.inl ⟨lk,h1,.inr ⟨y,hy,ht,rfl⟩⟩))
 ·exact hex _ ((hmem _).2 (.inr ⟨y,hz,rfl⟩))
theorem M5_L6_ok(F:Nat)(R:RightG g)(N:Nat)(hN:N=g.Funcs.length+(rL g fs).length+1){lev:List Int}(hlev:lev.length=N)(y92:Gr×List Int×List Int)(hy:y92.2.1=lev)(k:List TSite->Option (List TSite×Bool×Int)):
  ∀(l:List TSite) (j:Nat) (acc:List TSite),(SG g fs).drop j=l->acc.length+l.length<=1000000->
   M5_L6 F g (wOf g 1 fs) y92 k l j acc=k (acc++l.filter (ucut (·.Func) (fun f=>decide (0<=lvl lev (fiG g fs f))) (fun s=>decide (0<=lvl lev (ndG g fs s)))))
 |[],j,acc,hd,h=>by simp[M5_L6]
 |s::l,j,acc,hd,h=>by
  simp only[List.length_cons] at h
  have hfl:=R.fl
  have hlen:=rL_len (fs:=fs) R
  obtain⟨hj,hs,hd'⟩:=drop_at hd
  have hmem:s∈SG g fs:=by rw[<-hs];exact List.getElem_mem hj
  have hjl:j<(rL g fs).length:=by simpa using hj
  have hsF:s.Func∈FsG g:=by
   obtain⟨lk,h,rfl⟩:=List.mem_map.1 hmem
   exact allS_fn (List.mem_map.2 ⟨lk,rL_sub h,rfl⟩)
  obtain⟨i,hi,_,e2,e3⟩:=fi_at (fs:=fs) R hsF
  have hid:(SG g fs).idxOf s=j:=by
   rw[<-hs]
   exact(SG_nodup R).idxOf_getElem j hj
  have hnd:ndG g fs s=g.Funcs.length+j:=by unfold ndG;rw[hid]
  have hw:w64 (((g.Funcs.length:Nat):Int)+(j:Int))=((g.Funcs.length+j:Nat):Int):=by rw[w64_id (by omega) (by omega)];omega
  have hcast:((j:Int)+1)=((j+1:Nat):Int):=by omega
  have hfi:(mget (wOf g 1 fs).funcs s.Func).getD 0=(i:Int):=e2
  rw[M5_L6,jn_def,hfi,hy,idx_lvl (by omega),Option.bind_some,hw,hcast,List.filter_cons]
  have hp:ucut (fun s:TSite=>s.Func) (fun f=>decide (0<=lvl lev (fiG g fs f))) (fun s=>decide (0<=lvl lev (ndG g fs s))) s=(decide (0<=lvl lev i)&&!decide (0<=lvl lev (g.Funcs.length+j))):=by
   show(decide (0<=lvl lev (fiG g fs s.Func))&&!decide (0<=lvl lev (ndG g fs s)))=_
   rw[e3,hnd]
  rw[hp]
  by_cases h1:0<=lvl lev i
  ·rw[if_pos (by simpa using h1),idx_lvl (by omega),Option.bind_some,jn_def]
   by_cases h2:lvl lev (g.Funcs.length+j)<0
   ·rw[if_pos (by simpa using h2),if_pos (by simp;omega)]
    refine(M5_L6_ok F R N hN hlev y92 hy k l (j+1) _ hd' (by simp;omega)).trans ?_
    rw[if_pos (by simp[h1];omega)]
    simp
   ·rw[if_neg (by simpa using h2)]
    refine(M5_L6_ok F R N hN hlev y92 hy k l (j+1) _ hd' (by omega)).trans ?_
    rw[if_neg (by simp[h1];omega)]
  ·rw[if_neg (by simpa using h1)]
   refine(M5_L6_ok F R N hN hlev y92 hy k l (j+1) _ hd' (by omega)).trans ?_
   rw[if_neg (by simp[h1])]
theorem fn_get(R:RightG g){t:Tx}(ht:t∈FsG g):∃v,mget (wOf g 1 fs).funcs t=some v:=by
 obtain⟨x,hx,rfl⟩:=List.mem_map.1 ht
 obtain⟨i,hi,rfl⟩:=List.getElem_of_mem hx
 have:=nums_get (g.Funcs.map (·.Name)) [] 0 i (by simpa using hi) (srt_names (f:=fun x:TFunc=>x.Name) R.fsrt)
 rw[List.getElem_map] at this
 exact⟨_,this⟩
noncomputable def errC(g:TGraph)(fs:List Tx)(t:Tx):Int:=if opnE g 1 fs≠0 then opnE g 1 fs else if (FsG g).contains t=true then 0 else 4
theorem M15_eq(F:Nat)(t:Tx)(hg:okTGraph g)(hfs:∀x,x∈fs->x.length<=maxLen)(hF:1000<=F):M15 F g 1 fs t=some (if errC g fs t≠0 then (none,0,errC g fs t) else (some (wOf g 1 fs),fI (wOf g 1 fs) t,0)):=by
 unfold M15 errC
 rw[M34_eq F g 1 fs hg hfs hF,Option.bind_some]
 by_cases h1:opnE g 1 fs=0
 ·have R:=(opn_parts h1).1
  rw[if_neg (by simp[h1]),if_neg (by simp[h1]),Option.bind_some]
  by_cases h2:t∈FsG g
  ·obtain⟨v,hv⟩:=fn_get (fs:=fs) R h2
   have hc:(FsG g).contains t=true:=by simpa using h2
   rw[hc,hv]
   simp[fI,hv,h1]
  ·have hn:mget (wOf g 1 fs).funcs t=none:=nums_none h2
   have hc:(FsG g).contains t=false:=by
    cases h3:(FsG g).contains t
    ·rfl
    ·exact absurd (by simpa using h3) h2
   rw[hc,hn]
   simp[h1]
 ·simp[h1]
theorem prog_ok(F:Nat)(hF:1000000000000000000000000<=F)(t:Tx)(hg:okTGraph g)(hfs:∀x,x∈fs->x.length<=maxLen):
  (errC g fs t≠0->M5 F g fs t=some ([],false,errC g fs t))/\(errC g fs t=0->t∈g.Entries->M5 F g fs t=some ([],false,0))/\(errC g fs t=0->t ∉ g.Entries->∃cut,Res g fs t cut/\M5 F g fs t=some (cut,true,0)):=by
 have e0:=M15_eq F t hg hfs (by omega)
 refine⟨fun h=>?_,fun h ht=>?_,fun h ht=>?_⟩
 ·unfold M5
  rw[e0,if_pos h,Option.bind_some,if_pos (by simpa using h)]
 ·unfold M5
  rw[e0,if_neg (by simp[h]),Option.bind_some,if_neg (by simp),M10_eq,Option.bind_some,if_pos (by simpa using ht)]
 ·have hop:opnE g 1 fs=0/\t∈FsG g:=by
   unfold errC at h
   by_cases h1:opnE g 1 fs=0
   ·rw[if_neg (by simp[h1])] at h
    split at h
    ·rename_i q;exact⟨h1,by simpa using q⟩
    ·simp at h
   ·rw[if_pos h1] at h;exact absurd h h1
  have R:=(opn_parts hop.1).1
  have hfl:=R.fl
  have hlen:=rL_len (fs:=fs) R
  obtain⟨sp,es,P⟩:=spread_ok (fs:=fs) F R (.inl rfl) (by omega)
  obtain⟨ti,hti,et1,et2,et3⟩:=fi_at (fs:=fs) R hop.2
  have hSl:(SG g fs).length=(rL g fs).length:=by simp
  have hel:g.Entries.length<=3000:=by
   have h1:=List.Nodup.length_le_of_subset (l₂:=FsG g) (R.esrt.imp fun {a b} h=>bl_ne h) (fun e he=>by
    obtain⟨f,h1,h2⟩:=in_names.1 (R.e e he)
    exact List.mem_map.2 ⟨f,h1,h2⟩)
   simp at h1;omega
  have hen:∀e,e∈g.Entries->e∈FsG g:=fun e he=>by
   obtain⟨f,h1,h2⟩:=in_names.1 (R.e e he)
   exact List.mem_map.2 ⟨f,h1,h2⟩
  have I0:NetI (g.Funcs.length+(rL g fs).length+1) [] (fun _=>0) (fun _=>0) (List.replicate (g.Funcs.length+(rL g fs).length+1) ([]:List Treach_arc)):=by
   refine⟨by simp,fun d hd=>by simp at hd,fun d hd=>by simp at hd,fun d hd=>by simp at hd,fun i p a ha=>?_,fun d d' hd=>by simp at hd,fun d hd=>by simp at hd,fun k hk=>by simp at hk,fun i row hr=>?_⟩
   ·unfold at2 at ha
    rw[List.getElem?_replicate] at ha
    split at ha<;>simp at ha
   ·rw[List.getElem?_replicate] at hr
    split at hr
    ·simp only[Option.some.injEq] at hr;subst hr;simp
    ·simp at hr
  have J0:EInv g fs [] []:=⟨fun e=>by simp,by simp,fun e he=>by simp at he,by simp⟩
  have hwm:w64 (((g.Funcs.length:Nat):Int)+(((rL g fs).length:Nat):Int))=((g.Funcs.length+(rL g fs).length:Nat):Int):=by rw[w64_id (by omega) (by omega)];omega
  have hwm1:w64 (((g.Funcs.length+(rL g fs).length:Nat):Int)+1)=((g.Funcs.length+(rL g fs).length+1:Nat):Int):=by rw[w64_id (by omega) (by omega)];omega
  -- the net
  obtain⟨E3,ps3,G3,e3,I3,J3⟩:=M5_L3_ok F (by omega) R _ rfl (fun(l49:Gr)=>jn (fun(l81:Gr)=>(M19 F (w64 (((g.Funcs.length:Nat):Int)+(((SG g fs).length:Nat):Int))) (ti:Int) l81 ([]:List Int) ([]:List Int)).bind fun y92=>jn (fun(l95:List TSite)=>some (l95,true,0)) (fun k94=>M5_L6 F g (wOf g 1 fs) y92 k94 (SG g fs) 0 ([]:List TSite))) (fun k80=>M5_L5 F g (wOf g 1 fs) (SG g fs) k80 g.Entries l49)) (rL g fs) [] [] _ _ (by simp) I0 J0
  have hE3:=J3.len
  obtain⟨ps5,G5,e5,I5⟩:=M5_L5_ok (fs:=fs) F R _ (rL g fs).length (SG g fs) hSl (by omega) rfl (fun(l81:Gr)=>(M19 F (w64 (((g.Funcs.length:Nat):Int)+(((SG g fs).length:Nat):Int))) (ti:Int) l81 ([]:List Int) ([]:List Int)).bind fun y92=>jn (fun(l95:List TSite)=>some (l95,true,0)) (fun k94=>M5_L6 F g (wOf g 1 fs) y92 k94 (SG g fs) 0 ([]:List TSite))) g.Entries E3 ps3 G3 I3 (by omega) hen
  have S:=estr_ok R J3
  have hEl:(E3++g.Entries.map (fun e=>((g.Funcs.length+(rL g fs).length,fiG g fs e,BIG):Eg))).length<=400000000:=by simp;omega
  obtain⟨G6,lev,nx6,fl,e6,I6,C6,L6,v6⟩:=flow_ok F (s:=g.Funcs.length+(rL g fs).length) (t:=ti) (by omega) (by omega) (by omega) (by omega) (by omega) (by omega) [] [] I5
  rw[<-et3] at C6 v6
  have U:=S.uv hop.2 I6.pos C6
  have C:=S.closed hop.2 ht I6.pos I6.lt C6 L6 v6 (by omega)
  have hzr:∀f,f∈FsG g->ZG g f->rb g fs f=true:=fun f _ hz=>rb_iff.2 (.entry hz)
  have hU:=UV.more (Ls:=LsG g fs) (p:=fun s=>rb g fs s.Func) (by rw[<-rS_eq];exact U) (fun s hs=>allS_fn hs)
  have hC:=UCl.more (Ls:=LsG g fs) (p:=fun s=>rb g fs s.Func) (r:=rb g fs) (by rw[<-rS_eq];exact C) (fun s hs=>allS_fn hs) (fun s hs=>rfl) hzr (fun s hs hr y hy hty=>tosP_rb hr hty)
  refine⟨(SG g fs).filter (ucut (·.Func) (fun f=>decide (0<=lvl lev (fiG g fs f))) (fun s=>decide (0<=lvl lev (ndG g fs s)))),⟨_,_,_,_,hU,hC,fun A B hAB=>?_,?_⟩,?_⟩
  ·have:=UCl.less hAB
   rw[<-rS_eq] at this
   have hl:=S.least hop.2 I6.pos I6.lt C6 L6 this
   refine⟨fun f hf h=>hl.1 f hf ?_,fun s hs h=>?_⟩
   ·simp only[Bool.and_eq_true,decide_eq_true_eq] at h;exact h.1
   ·simp only[Bool.and_eq_true,decide_eq_true_eq] at h
    exact hl.2 s (by unfold SG;rw[rS_eq];exact List.mem_filter.2 ⟨hs,h.2⟩) h.1
  ·unfold SG
   rw[rS_eq,List.filter_filter]
   refine List.filter_congr fun s hs=>?_
   show((decide (0<=lvl lev (fiG g fs s.Func))&&!decide (0<=lvl lev (ndG g fs s)))&&rb g fs s.Func)=((decide (0<=lvl lev (fiG g fs s.Func))&&rb g fs s.Func)&&!(decide (0<=lvl lev (ndG g fs s))&&rb g fs s.Func))
   cases decide (0<=lvl lev (fiG g fs s.Func))<;>cases rb g fs s.Func<;>cases decide (0<=lvl lev (ndG g fs s))<;>rfl
  ·unfold M5
   rw[e0,if_neg (by simp[h]),Option.bind_some,if_neg (by simp),M10_eq,Option.bind_some,if_neg (by simpa using ht),Option.bind_some,es,Option.bind_some]
   simp only[jn_def,Option.bind_some]
   have hr:=M5_L1_eq (fs:=fs) F R P
   rw[show(0:Int)=((0:Nat):Int) from rfl]
   refine(hr _ g.Funcs 0 [] rfl (by simp;omega)).trans ?_
   simp only[List.nil_append]
   have hsg:((g.Funcs.filter (fun x=>rb g fs x.Name)).flatMap (LK g fs)).map (·.site)=SG g fs:=rfl
   rw[hsg,hSl,hwm,hwm1,if_pos (by omega)]
   have hfit:fI (wOf g 1 fs) t=(ti:Int):=et2
   rw[hfit]
   simp only[jn_def,hSl,hwm] at e3 e5
   refine e3.trans (e5.trans ?_)
   rw[e6,Option.bind_some]
   refine(M5_L6_ok F R _ rfl L6.len _ rfl _ (SG g fs) 0 [] rfl (by simp;omega)).trans ?_
   simp
end
set_option linter.unusedSimpArgs false
set_option maxRecDepth 100000
def SrI(l:List TIface):Prop:=l.Pairwise fun a b=>Op.bytesLess a.Name b.Name=true
def SrT(l:List TType):Prop:=l.Pairwise fun a b=>Op.bytesLess a.Name b.Name=true
theorem srtM_same{T:Type}(f:T->Tx){cmp:T->T->Option Int}(hc:∀x y,∃c,cmp x y=some c/\decide (c<0)=Op.bytesLess (f x) (f y)){l:List T}(hs:l.Pairwise fun a b=>Op.bytesLess (f a) (f b)=true)(hl:l.length<4611686018427387904):srtM cmp l=some l:=by
 have hlt:∀x y,cltM cmp x y=Op.bytesLess (f x) (f y):=fun x y=>by
  obtain⟨c,e,h⟩:=hc x y
  unfold cltM
  rw[e];exact h
 have h1:swoM cmp l=true:=by
  unfold swoM
  refine List.all_eq_true.2 fun x _=>?_
  rw[Bool.and_eq_true]
  refine⟨by rw[hlt,bl_irrefl];rfl,List.all_eq_true.2 fun y _=>?_⟩
  rw[Bool.and_eq_true]
  refine⟨by obtain⟨c,e,_⟩:=hc x y;rw[e];rfl,List.all_eq_true.2 fun z _=>?_⟩
  rw[hlt,hlt,hlt]
  cases e1:Op.bytesLess (f x) (f y)<;>cases e2:Op.bytesLess (f y) (f z)
  ·rw[(SLt.ntr (lt:=fun a b=>Op.bytesLess a b) ⟨bl_irrefl,bl_trans,bl_tri⟩ e1 e2:Op.bytesLess (f x) (f z)=false)];rfl
  ·simp
  ·simp
  ·rw[bl_trans e1 e2];rfl
 have h2:dstM cmp l=true:=by
  rw[dstM_pw]
  refine hs.imp fun {a b} h=>?_
  rw[hlt,h];rfl
 have h3:(l.mergeSort fun x y=>!cltM cmp y x)=l:=by
  apply List.mergeSort_of_pairwise
  refine hs.imp fun {a b} h=>?_
  rw[hlt,bl_asymm h];rfl
 have h4:ascM cmp l=true:=by
  have:=ascM_of (ms_asc h1)
  rw[h3] at this;exact this
 unfold srtM
 rw[h1,h2,h3,h4,show Nat.blt l.length 4611686018427387904=true from by rw[Nat.blt_eq];exact hl]
 rfl
theorem M58_s(F:Nat){l:List TIface}(hs:SrI l)(hl:l.length<=100000)(hF:100002<=F):M58 F l=some l:=by
 unfold M58
 refine srtM_same (fun x:TIface=>x.Name) (fun x y=>?_) hs (by omega)
 refine⟨_,by unfold M59 M24;simp only[Option.bind_some];rw[M56_eq];rfl,?_⟩
 cases Op.bytesLess x.Name y.Name
 ·simp;split<;>decide
 ·simp
theorem M60_s(F:Nat){l:List TType}(hs:SrT l)(hl:l.length<=100000)(hF:100002<=F):M60 F l=some l:=by
 unfold M60
 refine srtM_same (fun x:TType=>x.Name) (fun x y=>?_) hs (by omega)
 refine⟨_,by unfold M61 M27;simp only[Option.bind_some];rw[M56_eq];rfl,?_⟩
 cases Op.bytesLess x.Name y.Name
 ·simp;split<;>decide
 ·simp
theorem M29_s(F:Nat){l:List Tx}(h:l.length<=100000):M29 F l=some l:=by
 unfold M29
 refine nilq_same ?_ (fun h0=>?_)
 ·rw[if_neg (by simp),if_pos (by simp;omega)];rfl
 ·rw[if_pos rfl,List.length_eq_zero_iff.mp h0]
theorem M23_L1_s(F:Nat)(k:List TIface->Option (List TIface)):∀(l acc:List TIface),(∀x,x∈l->x.Methods.length<=100000)->acc.length+l.length<=100000->M23_L1 F k l acc=k (acc++l)
 |[],acc,_,_=>by rw[M23_L1,List.append_nil]
 |x::l,acc,hm,hn=>by
  simp only[List.length_cons] at hn
  rw[M23_L1,M25,M29_s F (hm x (by simp)),Option.bind_some,Option.bind_some,if_pos (by simp;omega),M23_L1_s F k l _ (fun y hy=>hm y (by simp[hy])) (by simp;omega)]
  simp
theorem M23_s(F:Nat){l:List TIface}(hs:SrI l)(hl:l.length<=100000)(hm:∀x,x∈l->x.Methods.length<=100000)(hF:100002<=F):M23 F l=some l:=by
 unfold M23
 rw[jn_def,M23_L1_s F _ l [] hm (by simp;omega),List.nil_append,M58_s F hs hl hF,Option.bind_some,if_pos rfl]
theorem M62_s(F:Nat){l:List TMethod}(h:l.length<=100000):M62 F l=some l:=by
 unfold M62
 refine nilq_same ?_ (fun h0=>?_)
 ·rw[if_neg (by simp),if_pos (by simp;omega)];rfl
 ·rw[if_pos rfl,List.length_eq_zero_iff.mp h0]
theorem M26_L1_s(F:Nat)(k:List TType->Option (List TType)):∀(l acc:List TType),(∀x,x∈l->x.Methods.length<=100000)->acc.length+l.length<=100000->M26_L1 F k l acc=k (acc++l)
 |[],acc,_,_=>by rw[M26_L1,List.append_nil]
 |x::l,acc,hm,hn=>by
  simp only[List.length_cons] at hn
  rw[M26_L1,M28,M62_s F (hm x (by simp)),Option.bind_some,Option.bind_some,if_pos (by simp;omega),M26_L1_s F k l _ (fun y hy=>hm y (by simp[hy])) (by simp;omega)]
  simp
theorem M26_s(F:Nat){l:List TType}(hs:SrT l)(hl:l.length<=100000)(hm:∀x,x∈l->x.Methods.length<=100000)(hF:100002<=F):M26 F l=some l:=by
 unfold M26
 rw[jn_def,M26_L1_s F _ l [] hm (by simp;omega),List.nil_append,M60_s F hs hl hF,Option.bind_some,if_pos rfl]
abbrev SiteM:=List (TSite×Bool)
abbrev emG:TGraph:=TGraph.mk ([]:List TIface) ([]:List TType) ([]:List TFunc) ([]:List (List UInt8))
def fndG(g:TGraph)(x:Tx):Option TFunc:=g.Funcs.find? fun f=>f.Name==x
def atE(g:TGraph)(s:TSite):Int:=match fndG g s.Func with
 |none=>4
 |some f=>if s.Call<0 then 9 else if s.Call>=((f.Calls.length:Nat):Int) then 9 else 0
def swE(g:TGraph):Option TSite->List TSite->Int
 |_,[]=>0
 |p,s::l=>if atE g s≠0 then atE g s else if p.elim false (fun q=>!slt q s)=true then 10 else swE g (some s) l
def pv(a:List TSite)(n:Nat):Option TSite:=if n=0 then none else a[n - 1]?
def sput(m:SiteM)(l:List TSite):SiteM:=l.foldl (fun m x=>mput m x true) m
theorem M65_L1_s(F:Nat)(x:Tx)(k:Option (TFunc×Bool)):∀l:List TFunc,M65_L1 F x k l=match l.find? (fun f=>f.Name==x) with|some f=>some (f,true)|none=>k
 |[]=>by rw[M65_L1];rfl
 |f::l=>by
  rw[M65_L1,List.find?_cons]
  by_cases h:(f.Name==x)=true
  ·rw[if_pos h,h]
  ·rw[if_neg h,M65_L1_s F x k l]
   simp only[Bool.not_eq_true] at h
   rw[h]
theorem M31_s(F:Nat)(g:TGraph)(s:TSite):∃c,M31 F g s=some (c,atE g s):=by
 unfold M31 M65 atE fndG
 rw[jn_def,M65_L1_s]
 cases h:g.Funcs.find? (fun f=>f.Name==s.Func) with
 |none=>exact⟨_,rfl⟩
 |some f=>
  simp only[Option.bind_some,Bool.not_true,Bool.false_eq_true,if_false]
  by_cases h1:s.Call<0
  ·rw[if_t h1,if_pos h1];exact⟨_,rfl⟩
  ·rw[if_f h1,if_neg h1]
   by_cases h2:s.Call>=((f.Calls.length:Nat):Int)
   ·rw[if_t h2,if_pos h2];exact⟨_,rfl⟩
   ·rw[if_f h2,if_neg h2]
    obtain⟨a,ha⟩:∃a:Nat,s.Call=(a:Int):=⟨s.Call.toNat,by omega⟩
    rw[ha,idx_nat (by omega),Option.bind_some]
    exact⟨_,rfl⟩
theorem M32_s(F:Nat)(s t:TSite):M32 F s t=some (slt s t):=by
 unfold M32 slt
 split
 ·rfl
 ·split<;>rfl
theorem pv_next{a:List TSite}{n:Nat}{x:TSite}{l:List TSite}(h:a.drop n=x::l):pv a (n+1)=some x:=by
 obtain⟨hn,h1,_⟩:=drop_at h
 unfold pv
 rw[if_neg (by omega),Nat.add_sub_cancel,List.getElem?_eq_getElem hn,h1]
theorem M7_L1_s(F:Nat)(g:TGraph)(a:List TSite)(ha:a.length<=maxLen)(k:SiteM->Option (TGraph×Int)):∀(l:List TSite) (n:Nat) (m:SiteM),a.drop n=l->M7_L1 F g a k l n m=if swE g (pv a n) l≠0 then some (emG,swE g (pv a n) l) else k (sput m l)
 |[],n,m,_=>by rw[M7_L1];simp[swE,sput]
 |s::l,n,m,h=>by
  obtain⟨hn,h1,h2⟩:=drop_at h
  have ih:=M7_L1_s F g a ha k l (n+1) (mput m s true) h2
  rw[pv_next h,show((n+1:Nat):Int)=(n:Int)+1 from rfl] at ih
  obtain⟨c,hc⟩:=M31_s F g s
  rw[M7_L1]
  simp only[jn_def]
  rw[hc,Option.bind_some,swE,ih]
  by_cases h3:atE g s=0
  ·simp only[h3,bne_self_eq_false,Bool.false_eq_true,if_false,ne_eq,not_true_eq_false]
   by_cases h4:n=0
   ·subst h4
    rw[if_f (by omega)]
    simp[pv,sput]
   ·obtain⟨h5,h6⟩:=prev_idx hn h4 ha
    rw[if_t (by omega),h6,Option.bind_some,M32_s,Option.bind_some]
    have e:pv a n=some a[n - 1]:=by unfold pv;rw[if_neg h4,List.getElem?_eq_getElem h5]
    rw[e]
    simp only[Option.elim]
    have h8:slt a[n - 1] s=true\/slt a[n - 1] s=false:=by cases slt a[n - 1] s<;>simp
    rcases h8 with h7|h7<;>simp[h7,sput,emG]
  ·rw[if_pos (by simpa using h3),if_pos h3,if_pos h3]
theorem M57_s(F:Nat)(a b:Int):M57 F a b=some (if a<b then -1 else if a>b then 1 else 0):=by
 unfold M57 M80
 simp only[Option.bind_some,bne_self_eq_false,Bool.false_eq_true,if_false]
 by_cases h:a<b
 ·rw[if_t h,if_pos h]
 ·rw[if_f h,if_neg h]
  by_cases h2:a>b
  ·rw[if_t h2,if_pos h2]
  ·rw[if_f h2,if_neg h2]
theorem M55_s(F:Nat)(a b:Int):M55 F [a,b]=some (if a≠0 then a else if b≠0 then b else 0):=by
 unfold M55
 simp only[jn_def,M55_L1]
 by_cases h:a=0
 ·by_cases h2:b=0
  ·simp[h,h2]
  ·simp[h,h2]
 ·simp[h]
theorem M22_s(F:Nat)(s t:TSite):∃c,M22 F s t=some c/\decide (c>=0) = !slt s t:=by
 unfold M22
 rw[M56_eq,Option.bind_some,M57_s,Option.bind_some,M55_s,Option.bind_some]
 refine⟨_,rfl,?_⟩
 unfold slt
 by_cases h:Op.bytesLess s.Func t.Func=true
 ·simp[h]
 ·by_cases h2:s.Func=t.Func
  ·rw[h2] at h ⊢
   by_cases h3:s.Call<t.Call
   ·simp[h,h3]
   ·by_cases h4:s.Call>t.Call
    ·simp[h,h3,h4]
    ·simp[h,h3,h4]
  ·simp[h,h2]
theorem fn_look(g:TGraph)(R:RightG g)(x:Tx):(mget (nums [] 0 (g.Funcs.map (·.Name))) x=none/\fndG g x=none)\/∃(i:Nat) (f:TFunc),mget (nums [] 0 (g.Funcs.map (·.Name))) x=some (i:Int)/\idx g.Funcs (i:Int)=some f/\fndG g x=some f:=by
 cases h:fndG g x with
 |none=>
  left
  refine⟨?_,rfl⟩
  rw[nums_other]
  ·rfl
  ·intro hm
   obtain⟨f,hf,hx⟩:=List.mem_map.1 hm
   have:=List.find?_eq_none.1 h f hf
   simp[hx] at this
 |some f=>
  right
  have h1:=List.find?_some h
  have h2:=List.mem_of_find?_eq_some h
  obtain⟨i,hi,he⟩:=List.getElem_of_mem h2
  have hi':i<(g.Funcs.map (·.Name)).length:=by simpa using hi
  have h3:=nums_get (g.Funcs.map (·.Name)) [] 0 i hi' (List.pairwise_map.2 R.fsrt)
  have h4:(g.Funcs.map (·.Name))[i]=x:=by
   rw[List.getElem_map,he];simpa using h1
  rw[h4,Int.zero_add] at h3
  exact⟨i,f,h3,by rw[idx_nat hi,he],rfl⟩
theorem M6_L1_s(F:Nat)(g:TGraph)(R:RightG g)(a:List TSite)(ha:a.length<=maxLen)(k:SiteM->Option (TGraph×Int)):∀(l:List TSite) (n:Nat) (m:SiteM),a.drop n=l->M6_L1 F g a (wOf g 1 []) k l n m=if swE g (pv a n) l≠0 then some (emG,swE g (pv a n) l) else k (sput m l)
 |[],n,m,_=>by rw[M6_L1];simp[swE,sput]
 |s::l,n,m,h=>by
  obtain⟨hn,h1,h2⟩:=drop_at h
  have ih:=M6_L1_s F g R a ha k l (n+1) (mput m s true) h2
  rw[pv_next h,show((n+1:Nat):Int)=(n:Int)+1 from rfl] at ih
  rw[M6_L1]
  simp only[jn_def]
  rw[ih,show(wOf g 1 []).funcs=nums [] 0 (g.Funcs.map (·.Name)) from rfl,swE]
  rcases fn_look g R s.Func with ⟨e1,e2⟩|⟨i,f,e1,e2,e3⟩
  ·have h3:atE g s=4:=by unfold atE;rw[e2]
   rw[e1]
   simp[h3,emG]
  ·rw[e1]
   simp only[Option.isSome_some,Bool.not_true,Bool.false_eq_true,if_false,Option.getD_some,e2,Option.bind_some]
   by_cases h4:s.Call<0
   ·have h3:atE g s=9:=by unfold atE;rw[e3];simp[h4]
    rw[if_t h4]
    simp[h3,emG]
   ·rw[if_f h4]
    by_cases h5:s.Call>=((f.Calls.length:Nat):Int)
    ·have h3:atE g s=9:=by unfold atE;rw[e3];simp only;rw[if_neg h4,if_pos h5]
     rw[if_t h5]
     simp[h3,emG]
    ·have h3:atE g s=0:=by unfold atE;rw[e3];simp only;rw[if_neg h4,if_neg h5]
     rw[if_f h5]
     simp only[h3,ne_eq,not_true_eq_false,if_false]
     by_cases h6:n=0
     ·subst h6
      rw[if_f (by omega)]
      simp[pv,sput]
     ·obtain⟨h7,h8⟩:=prev_idx hn h6 ha
      obtain⟨c,hc,hd⟩:=M22_s F a[n - 1] s
      rw[if_t (by omega),h8,Option.bind_some,hc,Option.bind_some,hd]
      have e:pv a n=some a[n - 1]:=by unfold pv;rw[if_neg h6,List.getElem?_eq_getElem h7]
      rw[e]
      simp only[Option.elim]
      have h8:slt a[n - 1] s=true\/slt a[n - 1] s=false:=by cases slt a[n - 1] s<;>simp
      rcases h8 with h7|h7<;>simp[h7,sput,emG]
theorem pig:∀(a b:List Tx),a.Pairwise (fun a b=>Op.bytesLess a b=true)->(∀x,x∈a->x∈b)->a.length<=b.length
 |[],b,_,_=>by simp
 |x::a,b,hp,h=>by
  have hp:=List.pairwise_cons.1 hp
  have hx:x∈b:=h x (by simp)
  have ih:=pig a (b.erase x) hp.2 (fun y hy=>(List.mem_erase_of_ne (bl_ne (hp.1 y hy)).symm).2 (h y (by simp[hy])))
  rw[List.length_erase_of_mem hx] at ih
  have:=List.length_pos_of_mem hx
  simp only[List.length_cons]
  omega
def keepC(m:SiteM)(x:Tx):Int->List TCall->List TCall
 |_,[]=>[]
 |n,c::l=>if (!((mget m (TSite.mk x n)).getD false))=true then c::keepC m x (n+1) l else keepC m x (n+1) l
def cutF(m:SiteM)(x:TFunc):TFunc:=TFunc.mk x.Name x.Component (keepC m x.Name 0 x.Calls) x.Makes
theorem M6_L3_s(F:Nat)(m:SiteM)(x:TFunc)(k:List TCall->Option (TGraph×Int)):∀(l:List TCall) (n:Int) (acc:List TCall),acc.length+l.length<=100000->M6_L3 F m x k l n acc=k (acc++keepC m x.Name n l)
 |[],n,acc,_=>by rw[M6_L3,keepC,List.append_nil]
 |c::l,n,acc,h=>by
  simp only[List.length_cons] at h
  rw[M6_L3]
  simp only[jn_def]
  rw[keepC]
  by_cases h1:(!((mget m (TSite.mk x.Name n)).getD false))=true
  ·rw[if_pos h1,if_pos h1,if_pos (by simp;omega),M6_L3_s F m x k l (n+1) _ (by simp;omega)]
   simp
  ·rw[if_neg h1,if_neg h1,M6_L3_s F m x k l (n+1) _ (by omega)]
theorem M7_L3_s(F:Nat)(m:SiteM)(x:TFunc)(k:List TCall->Option (TGraph×Int)):∀(l:List TCall) (n:Int) (acc:List TCall),acc.length+l.length<=100000->M7_L3 F m x k l n acc=k (acc++keepC m x.Name n l)
 |[],n,acc,_=>by rw[M7_L3,keepC,List.append_nil]
 |c::l,n,acc,h=>by
  simp only[List.length_cons] at h
  rw[M7_L3]
  simp only[jn_def]
  rw[keepC]
  by_cases h1:(!((mget m (TSite.mk x.Name n)).getD false))=true
  ·rw[if_pos h1,if_pos h1,if_pos (by simp;omega),M7_L3_s F m x k l (n+1) _ (by simp;omega)]
   simp
  ·rw[if_neg h1,if_neg h1,M7_L3_s F m x k l (n+1) _ (by omega)]
theorem M6_L2_s(F:Nat)(m:SiteM)(k:List TFunc->Option (TGraph×Int)):∀(l acc:List TFunc),(∀x,x∈l->x.Calls.length<=200/\x.Makes.length<=100000)->acc.length+l.length<=100000->M6_L2 F m k l acc=k (acc++l.map (cutF m))
 |[],acc,_,_=>by rw[M6_L2,List.map_nil,List.append_nil]
 |x::l,acc,hx,h=>by
  simp only[List.length_cons] at h
  have h1:=hx x (by simp)
  rw[M6_L2]
  simp only[jn_def]
  rw[M29_s F h1.2,Option.bind_some,M6_L3_s F m x _ x.Calls 0 [] (by simp;omega),if_pos (by simp;omega),M6_L2_s F m k l _ (fun y hy=>hx y (by simp[hy])) (by simp;omega)]
  simp[cutF]
theorem M7_L2_s(F:Nat)(m:SiteM)(k:List TFunc->Option (TGraph×Int)):∀(l acc:List TFunc),(∀x,x∈l->x.Calls.length<=200/\x.Makes.length<=100000)->acc.length+l.length<=100000->M7_L2 F m k l acc=k (acc++l.map (cutF m))
 |[],acc,_,_=>by rw[M7_L2,List.map_nil,List.append_nil]
 |x::l,acc,hx,h=>by
  simp only[List.length_cons] at h
  have h1:=hx x (by simp)
  rw[M7_L2]
  simp only[jn_def]
  rw[M7_L3_s F m x _ x.Calls 0 [] (by simp;omega),if_pos (by simp;omega),M7_L2_s F m k l _ (fun y hy=>hx y (by simp[hy])) (by simp;omega)]
  simp[cutF]
theorem told_ok:M8 1000000000000000000000000=some true:=by kernel_rfl
def WoG(g:TGraph)(a:List TSite):TGraph:=TGraph.mk g.Ifaces g.Types (g.Funcs.map (cutF (sput [] a))) g.Entries
theorem sput_get(s:TSite):∀(a:List TSite) (m:SiteM),(mget (sput m a) s).getD false=(decide (s∈a)||(mget m s).getD false)
 |[],m=>by simp[sput]
 |x::a,m=>by
  have:=sput_get s a (mput m x true)
  unfold sput at this ⊢
  rw[List.foldl_cons,this,mget_mput]
  by_cases e:x=s
  ·subst e;simp
  ·rw[if_neg e]
   have:s∈x::a<->s∈a:=by rw[List.mem_cons];exact⟨fun q=>q.resolve_left (fun q'=>e q'.symm),.inr⟩
   simp only[this]
theorem keepC_mem(m:SiteM)(x:Tx)(c:TCall):∀(l:List TCall) (n:Int),c∈keepC m x n l<->∃i:Nat,∃h:i<l.length,l[i]=c/\(mget m (TSite.mk x (n+i))).getD false=false
 |[],n=>by simp[keepC]
 |d::l,n=>by
  have ih:=keepC_mem m x c l (n+1)
  have sh:∀i:Nat,n+1+(i:Int)=n+((i+1:Nat):Int):=fun i=>by omega
  rw[keepC]
  cases h:(mget m (TSite.mk x n)).getD false
  ·rw[if_pos (by simp),List.mem_cons,ih]
   constructor
   ·rintro(e|⟨i,hi,h1,h2⟩)
    ·exact⟨0,by simp,by simp[e],by simpa using h⟩
    ·exact⟨i+1,by simpa using hi,by simpa using h1,by rw[<-sh];exact h2⟩
   ·rintro⟨i,hi,h1,h2⟩
    cases i with
    |zero=>exact .inl (by simpa using h1.symm)
    |succ i=>exact .inr ⟨i,by simpa using hi,by simpa using h1,by rw[sh];exact h2⟩
  ·rw[if_neg (by simp),ih]
   constructor
   ·rintro⟨i,hi,h1,h2⟩
    exact⟨i+1,by simpa using hi,by simpa using h1,by rw[<-sh];exact h2⟩
   ·rintro⟨i,hi,h1,h2⟩
    cases i with
    |zero=>simp only[Int.natCast_zero,Int.add_zero] at h2;rw[h] at h2;simp at h2
    |succ i=>exact⟨i,by simpa using hi,by simpa using h1,by rw[sh];exact h2⟩
theorem keepC_len(m:SiteM)(x:Tx):∀(l:List TCall) (n:Int),(keepC m x n l).length<=l.length
 |[],n=>by simp[keepC]
 |d::l,n=>by
  have ih:=keepC_len m x l (n+1)
  rw[keepC]
  split<;>simp<;>omega
theorem keepC_sub(m:SiteM)(x:Tx){c:TCall}{l:List TCall}{n:Int}(h:c∈keepC m x n l):c∈l:=by
 obtain⟨i,hi,rfl,_⟩:=(keepC_mem m x c l n).1 h
 exact List.getElem_mem hi
theorem csE_mem{fs:Tx->Bool}{is:Tx->Option (List Tx)}{lo:Bool}:∀{l:List TCall},csE fs is lo l=0<->∀c,c∈l->clE fs is lo c=0
 |[]=>by simp[csE]
 |c::l=>by
  rw[csE]
  by_cases h:clE fs is lo c=0
  ·rw[if_neg (by simp[h]),csE_mem]
   constructor
   ·intro q d hd
    rcases List.mem_cons.1 hd with e|e
    ·rw[e];exact h
    ·exact q d e
   ·intro q d hd;exact q d (List.mem_cons_of_mem _ hd)
  ·rw[if_pos h]
   exact⟨fun q=>absurd q h,fun q=>absurd (q c (by simp)) h⟩
theorem fnE_cut{fs ts:Tx->Bool}{is:Tx->Option (List Tx)}(m:SiteM):∀(l:List TFunc) (p:Option Tx),fnE fs ts is false p l=0->fnE fs ts is false p (l.map (cutF m))=0
 |[],p,h=>rfl
 |x::l,p,h=>by
  rw[fnE] at h
  rw[List.map_cons,fnE]
  have hk:=keepC_len m x.Name x.Calls 0
  split at h
  ·rename_i q;exact absurd h q
  rename_i h1
  split at h
  ·simp at h
  rename_i h2
  split at h
  ·simp at h
  rename_i h3
  split at h
  ·rename_i q;exact absurd h q
  rename_i h4
  split at h
  ·rename_i q;exact absurd h q
  rename_i h5
  have h4':csE fs is false (keepC m x.Name 0 x.Calls)=0:=csE_mem.2 fun c hc=>csE_mem.1 (by simpa using h4) c (keepC_sub m x.Name hc)
  show(if nme x.Name p≠0 then _ else if nm x.Component=false then _ else if 200<(keepC m x.Name 0 x.Calls).length then _ else if csE fs is false (keepC m x.Name 0 x.Calls)≠0 then _ else if lsE ts false none x.Makes≠0 then _ else fnE fs ts is false (some x.Name) (l.map (cutF m)))=0
  rw[if_neg h1,if_neg h2,if_neg (by omega),if_neg (by simpa using h4'),if_neg h5]
  exact fnE_cut m l (some x.Name) h
theorem FsG_W(g:TGraph)(a:List TSite):FsG (WoG g a)=FsG g:=by
 show((g.Funcs.map (cutF (sput [] a))).map (·.Name))=g.Funcs.map (·.Name)
 rw[List.map_map];rfl
theorem chk_W{g:TGraph}(a:List TSite)(h:chk false g=0):chk false (WoG g a)=0:=by
 have hf:fsOf (WoG g a)=fsOf g:=by unfold fsOf;have:=FsG_W g a;unfold FsG at this;rw[this]
 have ht:tsOf (WoG g a)=tsOf g:=rfl
 have hi:isOf (WoG g a)=isOf g:=rfl
 have hlen:(WoG g a).Funcs.length=g.Funcs.length:=by show(g.Funcs.map _).length=_;simp
 unfold chk at h ⊢
 rw[hf,ht,hi,hlen]
 split at h
 ·simp at h
 rename_i h1
 split at h
 ·simp at h
 rename_i h2
 split at h
 ·simp at h
 rename_i h3
 split at h
 ·rename_i q;exact absurd h q
 rename_i h4
 split at h
 ·rename_i q;exact absurd h q
 rename_i h5
 split at h
 ·rename_i q;exact absurd h q
 rename_i h6
 have h6':=fnE_cut (sput [] a) g.Funcs none (by simpa using h6)
 show(if 200<g.Ifaces.length then _ else if 500<g.Types.length then _ else if 3000<g.Funcs.length then _ else if ifE none g.Ifaces≠0 then _ else if tyE (fsOf g) false none g.Types≠0 then _ else if fnE (fsOf g) (tsOf g) (isOf g) false none (g.Funcs.map (cutF (sput [] a)))≠0 then _ else lsE (fsOf g) false none g.Entries)=0
 rw[if_neg h1,if_neg h2,if_neg h3,if_neg h4,if_neg h5,if_neg (by simpa using h6')]
 exact h
theorem ok_W{g:TGraph}(a:List TSite)(h:okTGraph g):okTGraph (WoG g a):=by
 obtain⟨h1,h2,⟨h3,h4⟩,h5⟩:=h
 refine⟨h1,h2,⟨fun x hx=>?_,by show(g.Funcs.map _).length<=_;simpa using h4⟩,h5⟩
 obtain⟨y,hy,rfl⟩:=List.mem_map.1 hx
 obtain⟨k1,k2,⟨k3,k4⟩,k5⟩:=h3 y hy
 exact⟨k1,k2,⟨fun c hc=>k3 c (keepC_sub _ _ hc),Nat.le_trans (keepC_len _ _ _ _) k4⟩,k5⟩
def wioE(g:TGraph)(a:List TSite):Int:=if chk false g≠0 then chk false g else swE g none a
theorem without_ok(F:Nat)(hF:200000<=F)(g:TGraph)(a:List TSite)(hg:okTGraph g)(ha:a.length<=maxLen):
  M6 F g a=some (if wioE g a≠0 then (emG,wioE g a) else (WoG g a,0))/\M7 F g a=some (if wioE g a≠0 then (emG,wioE g a) else (WoG g a,0)):=by
 have hF:100002<=F:=by omega
 unfold wioE
 by_cases h0:chk false g=0
 ·have R:=right_of h0
  have hm:∀x,x∈g.Funcs->x.Calls.length<=200/\x.Makes.length<=100000:=fun x hx=>by
   refine⟨(R.f x hx).len,?_⟩
   have h1:=pig x.Makes (g.Types.map (·.Name)) (R.f x hx).msrt (fun t ht=>by
    have h2:=(R.f x hx).makes t ht
    simpa[tsOf] using h2)
   have:=R.tl
   simp at h1
   omega
  have he:g.Entries.length<=100000:=by
   have h1:=pig g.Entries (g.Funcs.map (·.Name)) R.esrt (fun t ht=>by
    have h2:=R.e t ht
    simpa[fsOf] using h2)
   have:=R.fl
   simp at h1
   omega
  have hfl:=R.fl
  have hil:=R.il
  have htl:=R.tl
  rw[if_neg (show ¬chk false g≠0 by simp[h0])]
  constructor
  ·unfold M6
   rw[M20_eq F g hg,Option.bind_some,h0,if_neg (by simp),M21_eq F g 1 [] R (by omega),Option.bind_some]
   simp only[jn_def]
   rw[Option.bind_some,show(0:Int)=((0:Nat):Int) from rfl,M6_L1_s F g R a ha _ a 0 [] rfl]
   rw[show pv a 0=none from rfl]
   by_cases h1:swE g none a=0
   ·rw[if_neg (by simp[h1]),if_neg (by simp[h1])]
    rw[M23_s F R.isrt (by omega) (fun x hx=>by have:=(R.i x hx).len;omega) hF,Option.bind_some]
    rw[M26_s F R.tsrt (by omega) (fun x hx=>by have:=(R.t x hx).len;omega) hF,Option.bind_some]
    rw[M29_s F he,Option.bind_some,M6_L2_s F _ _ g.Funcs [] hm (by simp;omega)]
    rfl
   ·rw[if_pos h1,if_pos (show swE g none a≠((0:Nat):Int) from h1)]
  ·unfold M7
   rw[M30_eq F g hg,Option.bind_some,h0,if_neg (by simp)]
   simp only[jn_def]
   rw[show(0:Int)=((0:Nat):Int) from rfl,M7_L1_s F g a ha _ a 0 [] rfl]
   rw[show pv a 0=none from rfl]
   by_cases h1:swE g none a=0
   ·rw[if_neg (by simp[h1]),if_neg (by simp[h1])]
    rw[M7_L2_s F _ _ g.Funcs [] hm (by simp;omega)]
    rfl
   ·rw[if_pos h1,if_pos (show swE g none a≠((0:Nat):Int) from h1)]
 ·rw[if_pos h0,if_pos h0]
  constructor
  ·unfold M6
   rw[M20_eq F g hg,Option.bind_some,if_pos (by simpa using h0)]
  ·unfold M7
   rw[M30_eq F g hg,Option.bind_some,if_pos (by simpa using h0)]
theorem reached_ok(F:Nat)(hF:10000<=F)(g:TGraph)(fs:List Tx)(hg:okTGraph g)(hfs:∀x,x∈fs->x.length<=maxLen)(h:opnE g 1 fs=0):∃r,M9 F g 1 fs=some (r,0)/\∀t,M10 F r t=some (rb g fs t):=by
 have R:=(opn_parts h).1
 obtain⟨sp,e,P⟩:=spread_ok (fs:=fs) F R (.inl rfl) hF
 refine⟨pick (fun x:TFunc=>x.Name) g.Funcs sp.funcs,?_,fun t=>?_⟩
 ·unfold M9
  rw[M34_eq F g 1 fs hg hfs (by omega),if_neg (by simp[h]),Option.bind_some,if_neg (by simp[h]),Option.bind_some,e,Option.bind_some,Option.bind_some,jn_def]
  have:=pick_loop g.Funcs (fun x:TFunc=>x.Name) R.fl (fun l14=>some (l14,(0:Int))) (fun l n o=>M9_L1 F g (fun l14=>some (l14,(0:Int))) l n o) (fun n o=>rfl) (fun b l n o=>by
   rw[M9_L1]
   simp only[jn_def]
   have hcast:((n:Int)+1)=((n+1:Nat):Int):=by omega
   rw[hcast]) sp.funcs 0 [] (by rw[P.fl];omega) (by simp)
  simpa using this
 ·rw[M10_eq]
  congr 1
  cases hb:rb g fs t
  ·cases hc:(pick (fun x:TFunc=>x.Name) g.Funcs sp.funcs).contains t
   ·rfl
   ·have:=(pick_mem (fun x:TFunc=>x.Name) t g.Funcs sp.funcs).1 (by simpa using hc)
    obtain⟨i,hi,h1,rfl⟩:=this
    rw[rb_iff.2 ((P.f i hi).1 h1)] at hb
    simp at hb
  ·have h1:=rb_iff.1 hb
   have h2:=h1.names R
   simp only[Bool.false_eq_true,if_false] at h2
   obtain⟨i,hi,h3⟩:=fs_at h2
   have:=(pick_mem (fun x:TFunc=>x.Name) t g.Funcs sp.funcs).2 ⟨i,hi,(P.f i hi).2 (by rw[h3];exact h1),h3⟩
   simpa using this
section
variable{g:TGraph}{fs:List Tx}{a:List TSite}
theorem RN_W{s:TSite}(hs:s∈LsG g fs)(hna:s ∉ a)(h:RN (WoG g a) 1 (onF fs) false s.Func){y:Tx}(ht:tosP g fs s y):RN (WoG g a) 1 (onF fs) false y:=by
 obtain⟨l,hl,rfl,b,hb,rfl⟩:=ht
 obtain⟨x,hx,i,hi,ho,rfl⟩:=allL_mem.1 hl
 refine .aim (x:=cutF (sput [] a) x) (c:=x.Calls[i]) h (List.mem_map.2 ⟨x,hx,rfl⟩) ((keepC_mem _ _ _ _ _).2 ⟨i,hi,rfl,?_⟩) ho hb (fun q=>absurd rfl q)
 rw[sput_get,Int.zero_add]
 have:TSite.mk x.Name (i:Int) ∉ a:=hna
 simp[this,mget]
theorem Res.fewer{t:Tx}{cut:List TSite}(H:Res g fs t cut)(R:RightG g)(hl:a.length<cut.length):rb (WoG g a) fs t=true:=by
 obtain⟨u,v,S,T,U,C,L,rfl⟩:=H
 cases h:rb (WoG g a) fs t
 ·have h1:=U.no_fewer C (R:=rb (WoG g a) fs) (fun s=>decide (s∈a)) (fun f hf hz=>rb_iff.2 (.entry hz)) h (fun s hs hna hr y hy ht=>by
   exact rb_iff.2 (RN_W hs (by simpa using hna) (rb_iff.1 hr) ht))
  have h2:=List.Nodup.length_le_of_subset (l₁:=(LsG g fs).filter (fun s=>decide (s∈a))) (l₂:=a) ((nodup_slt (allS_srt R)).filter _) (fun s hs=>by simpa using (List.mem_filter.1 hs).2)
  omega
 ·rfl
theorem opn_W(h:opnE g 1 fs=0):opnE (WoG g a) 1 fs=0:=by
 unfold opnE at h ⊢
 split at h
 ·rename_i q;exact absurd h q
 rename_i h1
 rw[if_neg (by simpa using chk_W a (by simpa using h1))]
 exact h
theorem errC_opn{t:Tx}(h:errC g fs t=0):opnE g 1 fs=0:=by
 unfold errC at h
 by_cases h1:opnE g 1 fs=0
 ·exact h1
 ·rw[if_pos h1] at h;exact absurd h h1
theorem fuel:∃F:Nat,1000000000000000000000000<=F/\M8 F=some true:=⟨1000000000000000000000000,Nat.le_refl _,told_ok⟩
end
theorem plain_3(g:TGraph)(fs:List Tx)(t:Tx)(a:List TSite)(hg:okTGraph g)(hfs:(∀a,a∈fs->(fun x:List UInt8=>x.length<=maxLen) a)/\fs.length<=maxLen)(ht:t.length<=maxLen)(ha:(∀s,s∈a->(fun x:TSite=>okTSite x) s)/\a.length<=maxLen):∃F,M3 F g fs t a=some true:=by
 obtain⟨F,hF,h8⟩:=fuel
 refine⟨F,?_⟩
 obtain⟨r,e1,hr⟩:∃r:List TSite×Bool×Int,M5 F g fs t=some r/\(r=([],false,errC g fs t)/\(errC g fs t≠0\/t∈g.Entries)\/∃cut,r=(cut,true,0)/\Res g fs t cut/\errC g fs t=0/\t ∉ g.Entries):=by
  obtain⟨p1,p2,p3⟩:=prog_ok (g:=g) (fs:=fs) F hF t hg hfs.1
  by_cases h:errC g fs t=0
  ·by_cases ht:t∈g.Entries
   ·exact⟨_,p2 h ht,.inl ⟨by rw[h],.inr ht⟩⟩
   ·obtain⟨c,h1,h2⟩:=p3 h ht
    exact⟨_,h2,.inr ⟨c,rfl,h1,h,ht⟩⟩
  ·exact⟨_,p1 h,.inl ⟨rfl,.inl h⟩⟩
 obtain⟨W,w1,w2,hW⟩:∃W,M6 F g a=some W/\M7 F g a=some W/\(W=(WoG g a,0)\/W.2≠0):=by
  obtain⟨w1,w2⟩:=without_ok F (by omega) g a hg ha.2
  refine⟨_,w1,w2,?_⟩
  by_cases h2:wioE g a=0
  ·exact .inl (if_neg (by simp[h2]))
  ·rw[if_pos h2];exact .inr h2
 have tail:((M7 F g a).bind fun y10=>if (W.2==y10.2)=true then (M8 F).bind fun y13=>some y13 else some false)=some true:=by
  rw[w2,Option.bind_some,if_pos (by simp),h8];rfl
 unfold M3
 rw[e1,Option.bind_some,w1,Option.bind_some]
 by_cases h1:r.2.2=0
 ·rw[if_neg (by simpa using h1)]
  rcases hW with rfl|h2
  ·rw[if_neg (by simp)]
   have hop:opnE g 1 fs=0:=by
    rcases hr with ⟨rfl,_⟩|⟨cut,rfl,H,herr,hne⟩
    ·exact errC_opn h1
    ·exact errC_opn herr
   have R:=(opn_parts hop).1
   obtain⟨r',e3,e4⟩:=reached_ok F (by omega) (WoG g a) fs (ok_W _ hg) hfs.1 (opn_W hop)
   rcases hr with ⟨rfl,herr|hmem⟩|⟨cut,rfl,H,herr,hne⟩
   ·exact absurd h1 herr
   ·have hb:rb (WoG g a) fs t=true:=rb_iff.2 (.entry hmem)
    rw[if_neg (by simp),e3,Option.bind_some,if_pos (by simp),e4,Option.bind_some,hb,if_pos rfl,h8];rfl
   ·rw[if_pos rfl]
    by_cases h3:cut.length<=a.length
    ·rw[if_pos (by simpa using h3)]
     exact tail
    ·rw[if_neg (by simpa using h3),e3,Option.bind_some,if_pos (by simp),e4,Option.bind_some,H.fewer R (by omega),if_pos rfl,h8];rfl
  ·rw[if_pos (by simpa using h2)]
   exact tail
 ·rw[if_pos (by simpa using h1)]
  exact tail
end Go.Proofs.YtcihpgamojpcnaaGreat
/-
 DERIVED: THE SHELF's CONTRACTS AT THIS DUMP, IN PLAIN WORDS (tools/lay-plain.mjs out of 'TryzShelf.lean', which tools/lay-shelf.mjs wrote): THE SAME DECLARATIONS UNDER THE SAME NAMES: 'import', 'namespace', 'open', 'def', 'theorem' AND NOTHING ELSE: no command of the shelf's: FOR A HAND-IN. Each laying: the table of numbers ('.._ren') and one theorem, a field a fact of the dump's own or the kernel's comparison; each contract: ONE APPLICATION.
-/
namespace Go.Proofs
open Go.Shelf
def Tryz.lays189_ren:Go.Shelf.Ren:=⟨fun|189=>48|125=>74|257=>73|128=>106|129=>107|294=>97|295=>98|296=>99|297=>100|298=>101|299=>102|216=>103|300=>104|301=>105|328=>128|329=>129|330=>130|331=>131|332=>132|215=>80|343=>139|n=>n,fun|28=>58|3=>3|46=>169|0=>0|51=>198|53=>200|4=>4|183=>192|182=>191|131=>76|5=>5|9=>9|218=>212|222=>216|228=>223|229=>224|n=>n,fun|n=>n⟩
theorem Tryz.lays189:Go.Proofs.Lays.n189 Tryz.prog Tryz.lays189_ren:={
 mixed:=by kernel_rfl
 f125:=Tryz.func74.trans (congrArg some (by kernel_rfl))
 f128:=Tryz.func106.trans (congrArg some (by kernel_rfl))
 f129:=Tryz.func107.trans (congrArg some (by kernel_rfl))
 f189:=Tryz.func48.trans (congrArg some (by kernel_rfl))
 f215:=Tryz.func80.trans (congrArg some (by kernel_rfl))
 f216:=Tryz.func103.trans (congrArg some (by kernel_rfl))
 f257:=Tryz.func73.trans (congrArg some (by kernel_rfl))
 f294:=Tryz.func97.trans (congrArg some (by kernel_rfl))
 f295:=Tryz.func98.trans (congrArg some (by kernel_rfl))
 f296:=Tryz.func99.trans (congrArg some (by kernel_rfl))
 f297:=Tryz.func100.trans (congrArg some (by kernel_rfl))
 f298:=Tryz.func101.trans (congrArg some (by kernel_rfl))
 f299:=Tryz.func102.trans (congrArg some (by kernel_rfl))
 f300:=Tryz.func104.trans (congrArg some (by kernel_rfl))
 f301:=Tryz.func105.trans (congrArg some (by kernel_rfl))
 f328:=Tryz.func128.trans (congrArg some (by kernel_rfl))
 f329:=Tryz.func129.trans (congrArg some (by kernel_rfl))
 f330:=Tryz.func130.trans (congrArg some (by kernel_rfl))
 f331:=Tryz.func131.trans (congrArg some (by kernel_rfl))
 f332:=Tryz.func132.trans (congrArg some (by kernel_rfl))
 f343:=Tryz.func139.trans (congrArg some (by kernel_rfl))
 t0:=Tryz.underlying0
 a0:=Tryz.isAgg0
 z0:=Tryz.sizeOf0
 v0:=Tryz.zeroValue0
 t3:=Tryz.underlying3
 a3:=Tryz.isAgg3
 z3:=Tryz.sizeOf3
 v3:=Tryz.zeroValue3
 t4:=Tryz.underlying4
 a4:=Tryz.isAgg4
 z4:=Tryz.sizeOf4
 v4:=Tryz.zeroValue4
 t5:=Tryz.underlying5
 a5:=Tryz.isAgg5
 z5:=Tryz.sizeOf5
 v5:=Tryz.zeroValue5
 t9:=Tryz.underlying9
 a9:=Tryz.isAgg9
 z9:=Tryz.sizeOf9
 v9:=Tryz.zeroValue9
 t28:=Tryz.underlying58
 a28:=Tryz.isAgg58
 z28:=Tryz.sizeOf58
 v28:=Tryz.zeroValue58
 t46:=Tryz.underlying169
 a46:=Tryz.isAgg169
 z46:=Tryz.sizeOf169
 v46:=Tryz.zeroValue169
 t51:=Tryz.underlying198
 a51:=Tryz.isAgg198
 z51:=Tryz.sizeOf198
 v51:=Tryz.zeroValue198
 t53:=Tryz.underlying200
 a53:=Tryz.isAgg200
 z53:=Tryz.sizeOf200
 v53:=Tryz.zeroValue200
 t131:=Tryz.underlying76
 a131:=Tryz.isAgg76
 z131:=Tryz.sizeOf76
 v131:=Tryz.zeroValue76
 t182:=Tryz.underlying191
 a182:=Tryz.isAgg191
 z182:=Tryz.sizeOf191
 v182:=Tryz.zeroValue191
 t183:=Tryz.underlying192
 a183:=Tryz.isAgg192
 z183:=Tryz.sizeOf192
 v183:=Tryz.zeroValue192
 t218:=Tryz.underlying212
 a218:=Tryz.isAgg212
 z218:=Tryz.sizeOf212
 v218:=Tryz.zeroValue212
 t222:=Tryz.underlying216
 a222:=Tryz.isAgg216
 z222:=Tryz.sizeOf216
 v222:=Tryz.zeroValue216
 t228:=Tryz.underlying223
 a228:=Tryz.isAgg223
 z228:=Tryz.sizeOf223
 v228:=Tryz.zeroValue223
 t229:=Tryz.underlying224
 a229:=Tryz.isAgg224
 z229:=Tryz.sizeOf224
 v229:=Tryz.zeroValue224 }
open Go.Sort Go.RowKit in
theorem Tryz.slices_Sort_int(blk off cap:Nat)(zs:List Int)(w:World)(hH:Holds (Value.int .i64) w blk off zs.toArray)(hblk:blk<w.heap.size)(hsz:zs.length<4611686018427387904):
  Calls Tryz.prog 48 #[.slice (some ⟨blk,off,none⟩) zs.length cap] w fun e w'=>
   e=.returned (.tuple #[])/\∃n os,w'=grow (putRow (Value.int .i64) (Sort.ahead w n) blk off (zs.mergeSort fun x y=>decide (x<=y)).toArray) os:=Any.slices_Sort_int Tryz.lays189 blk off cap zs w hH hblk hsz
def Tryz.laysNm220_ren:Go.Shelf.Ren:=⟨fun|20=>49|n=>n,fun|22=>58|3=>3|4=>4|0=>0|n=>n,fun|n=>n⟩
theorem Tryz.laysNm220:Go.Proofs.Lays2.n20 Tryz.prog Tryz.laysNm220_ren:={
 mixed:=by kernel_rfl
 f20:=Tryz.func49.trans (congrArg some (by kernel_rfl))
 t0:=Tryz.underlying0
 a0:=Tryz.isAgg0
 z0:=Tryz.sizeOf0
 v0:=Tryz.zeroValue0
 t3:=Tryz.underlying3
 a3:=Tryz.isAgg3
 z3:=Tryz.sizeOf3
 v3:=Tryz.zeroValue3
 t4:=Tryz.underlying4
 a4:=Tryz.isAgg4
 z4:=Tryz.sizeOf4
 v4:=Tryz.zeroValue4
 t22:=Tryz.underlying58
 a22:=Tryz.isAgg58
 z22:=Tryz.sizeOf58
 v22:=Tryz.zeroValue58
 i3:=by kernel_rfl }
open Go.RowKit Go.Lib Go.Sort in
theorem Tryz.slices_Compact_int(blk off cap:Nat)(zs:List Int)(w:World)(hH:Holds (Value.int .i64) w blk off zs.toArray)(hsz:zs.length<=9223372036854775807)(hcap:zs.length<=cap):
  Calls Tryz.prog 49 #[.slice (some ⟨blk,off,none⟩) zs.length cap] w fun e w'=>e=.returned (.slice (some ⟨blk,off,none⟩) (Lib.compact zs).length cap)/\∃q,w'=putRow (Value.int .i64) (Sort.ahead w q) blk off (Lib.compact zs++List.replicate (zs.length - (Lib.compact zs).length) 0).toArray:=Any.slices_Compact_int Tryz.laysNm220 blk off cap zs w hH hsz hcap
open Go.RowKit Go.Lib Go.Sort in
theorem Tryz.slices_Compact_int_empty(a:Option Addr)(cap:Nat)(w:World):
  Calls Tryz.prog 49 #[.slice a 0 cap] w fun e w'=>e=.returned (.slice a 0 cap)/\w'=w:=Any.slices_Compact_int_empty Tryz.laysNm220 a cap w
open Go.RowKit Go.Sort in
theorem Tryz.slices_Sort_int_none(p:Option Addr)(cap:Nat)(w:World):
  Calls Tryz.prog 48 #[.slice p 0 cap] w fun e w'=>e=.returned (.tuple #[])/\w'=w:=Any.slices_Sort_int_none Tryz.lays189 p cap w
def Tryz.laysSlF06_f58_ren:Go.Shelf.Ren:=⟨fun|6=>58|15=>74|14=>81|28=>106|29=>107|20=>110|21=>111|22=>112|23=>113|24=>114|25=>115|26=>116|27=>117|46=>133|47=>129|48=>130|49=>134|50=>135|57=>140|n=>n,fun|22=>22|24=>80|25=>139|3=>3|39=>169|0=>0|53=>198|55=>200|4=>4|46=>192|45=>191|50=>76|5=>5|9=>9|66=>212|70=>216|76=>223|77=>224|n=>n,fun|n=>n⟩
theorem Tryz.laysSlF06_f58:Go.Proofs.SlLaysF0.n6 Tryz.prog Tryz.laysSlF06_f58_ren:={
 mixed:=by kernel_rfl
 f6:=⟨Tryz.f58.name,by decide,Tryz.func58.trans (congrArg some (by kernel_rfl))⟩
 f14:=⟨Tryz.f81.name,by decide,Tryz.func81.trans (congrArg some (by kernel_rfl))⟩
 f15:=Tryz.func74.trans (congrArg some (by kernel_rfl))
 f20:=⟨Tryz.f110.name,by decide,Tryz.func110.trans (congrArg some (by kernel_rfl))⟩
 f21:=⟨Tryz.f111.name,by decide,Tryz.func111.trans (congrArg some (by kernel_rfl))⟩
 f22:=⟨Tryz.f112.name,by decide,Tryz.func112.trans (congrArg some (by kernel_rfl))⟩
 f23:=⟨Tryz.f113.name,by decide,Tryz.func113.trans (congrArg some (by kernel_rfl))⟩
 f24:=⟨Tryz.f114.name,by decide,Tryz.func114.trans (congrArg some (by kernel_rfl))⟩
 f25:=⟨Tryz.f115.name,by decide,Tryz.func115.trans (congrArg some (by kernel_rfl))⟩
 f26:=⟨Tryz.f116.name,by decide,Tryz.func116.trans (congrArg some (by kernel_rfl))⟩
 f27:=⟨Tryz.f117.name,by decide,Tryz.func117.trans (congrArg some (by kernel_rfl))⟩
 f28:=Tryz.func106.trans (congrArg some (by kernel_rfl))
 f29:=Tryz.func107.trans (congrArg some (by kernel_rfl))
 f46:=⟨Tryz.f133.name,by decide,Tryz.func133.trans (congrArg some (by kernel_rfl))⟩
 f47:=Tryz.func129.trans (congrArg some (by kernel_rfl))
 f48:=Tryz.func130.trans (congrArg some (by kernel_rfl))
 f49:=⟨Tryz.f134.name,by decide,Tryz.func134.trans (congrArg some (by kernel_rfl))⟩
 f50:=⟨Tryz.f135.name,by decide,Tryz.func135.trans (congrArg some (by kernel_rfl))⟩
 f57:=⟨Tryz.f140.name,by decide,Tryz.func140.trans (congrArg some (by kernel_rfl))⟩
 t0:=Tryz.underlying0
 a0:=Tryz.isAgg0
 z0:=Tryz.sizeOf0
 v0:=Tryz.zeroValue0
 t3:=Tryz.underlying3
 a3:=Tryz.isAgg3
 z3:=Tryz.sizeOf3
 v3:=Tryz.zeroValue3
 t4:=Tryz.underlying4
 a4:=Tryz.isAgg4
 z4:=Tryz.sizeOf4
 v4:=Tryz.zeroValue4
 t5:=Tryz.underlying5
 a5:=Tryz.isAgg5
 z5:=Tryz.sizeOf5
 v5:=Tryz.zeroValue5
 t9:=Tryz.underlying9
 a9:=Tryz.isAgg9
 z9:=Tryz.sizeOf9
 v9:=Tryz.zeroValue9
 t22:=Tryz.underlying22
 a22:=Tryz.isAgg22
 z22:=Tryz.sizeOf22
 v22:=Tryz.zeroValue22
 t25:=Tryz.underlying139
 a25:=Tryz.isAgg139
 z25:=Tryz.sizeOf139
 v25:=Tryz.zeroValue139
 t39:=Tryz.underlying169
 a39:=Tryz.isAgg169
 z39:=Tryz.sizeOf169
 v39:=Tryz.zeroValue169
 t45:=Tryz.underlying191
 a45:=Tryz.isAgg191
 z45:=Tryz.sizeOf191
 v45:=Tryz.zeroValue191
 t46:=Tryz.underlying192
 a46:=Tryz.isAgg192
 z46:=Tryz.sizeOf192
 v46:=Tryz.zeroValue192
 t50:=Tryz.underlying76
 a50:=Tryz.isAgg76
 z50:=Tryz.sizeOf76
 v50:=Tryz.zeroValue76
 t53:=Tryz.underlying198
 a53:=Tryz.isAgg198
 z53:=Tryz.sizeOf198
 v53:=Tryz.zeroValue198
 t55:=Tryz.underlying200
 a55:=Tryz.isAgg200
 z55:=Tryz.sizeOf200
 v55:=Tryz.zeroValue200
 t66:=Tryz.underlying212
 a66:=Tryz.isAgg212
 z66:=Tryz.sizeOf212
 v66:=Tryz.zeroValue212
 t70:=Tryz.underlying216
 a70:=Tryz.isAgg216
 z70:=Tryz.sizeOf216
 v70:=Tryz.zeroValue216
 t76:=Tryz.underlying223
 a76:=Tryz.isAgg223
 z76:=Tryz.sizeOf223
 v76:=Tryz.zeroValue223
 t77:=Tryz.underlying224
 a77:=Tryz.isAgg224
 z77:=Tryz.sizeOf224
 v77:=Tryz.zeroValue224 }
def Tryz.laysSlF06_f60_ren:Go.Shelf.Ren:=⟨fun|6=>60|15=>74|14=>82|28=>106|29=>107|20=>118|21=>119|22=>120|23=>121|24=>122|25=>123|26=>124|27=>125|46=>136|47=>129|48=>130|49=>137|50=>138|57=>141|n=>n,fun|22=>23|24=>86|25=>141|3=>3|39=>169|0=>0|53=>198|55=>200|4=>4|46=>192|45=>191|50=>76|5=>5|9=>9|66=>212|70=>216|76=>223|77=>224|n=>n,fun|n=>n⟩
theorem Tryz.laysSlF06_f60:Go.Proofs.SlLaysF0.n6 Tryz.prog Tryz.laysSlF06_f60_ren:={
 mixed:=by kernel_rfl
 f6:=⟨Tryz.f60.name,by decide,Tryz.func60.trans (congrArg some (by kernel_rfl))⟩
 f14:=⟨Tryz.f82.name,by decide,Tryz.func82.trans (congrArg some (by kernel_rfl))⟩
 f15:=Tryz.func74.trans (congrArg some (by kernel_rfl))
 f20:=⟨Tryz.f118.name,by decide,Tryz.func118.trans (congrArg some (by kernel_rfl))⟩
 f21:=⟨Tryz.f119.name,by decide,Tryz.func119.trans (congrArg some (by kernel_rfl))⟩
 f22:=⟨Tryz.f120.name,by decide,Tryz.func120.trans (congrArg some (by kernel_rfl))⟩
 f23:=⟨Tryz.f121.name,by decide,Tryz.func121.trans (congrArg some (by kernel_rfl))⟩
 f24:=⟨Tryz.f122.name,by decide,Tryz.func122.trans (congrArg some (by kernel_rfl))⟩
 f25:=⟨Tryz.f123.name,by decide,Tryz.func123.trans (congrArg some (by kernel_rfl))⟩
 f26:=⟨Tryz.f124.name,by decide,Tryz.func124.trans (congrArg some (by kernel_rfl))⟩
 f27:=⟨Tryz.f125.name,by decide,Tryz.func125.trans (congrArg some (by kernel_rfl))⟩
 f28:=Tryz.func106.trans (congrArg some (by kernel_rfl))
 f29:=Tryz.func107.trans (congrArg some (by kernel_rfl))
 f46:=⟨Tryz.f136.name,by decide,Tryz.func136.trans (congrArg some (by kernel_rfl))⟩
 f47:=Tryz.func129.trans (congrArg some (by kernel_rfl))
 f48:=Tryz.func130.trans (congrArg some (by kernel_rfl))
 f49:=⟨Tryz.f137.name,by decide,Tryz.func137.trans (congrArg some (by kernel_rfl))⟩
 f50:=⟨Tryz.f138.name,by decide,Tryz.func138.trans (congrArg some (by kernel_rfl))⟩
 f57:=⟨Tryz.f141.name,by decide,Tryz.func141.trans (congrArg some (by kernel_rfl))⟩
 t0:=Tryz.underlying0
 a0:=Tryz.isAgg0
 z0:=Tryz.sizeOf0
 v0:=Tryz.zeroValue0
 t3:=Tryz.underlying3
 a3:=Tryz.isAgg3
 z3:=Tryz.sizeOf3
 v3:=Tryz.zeroValue3
 t4:=Tryz.underlying4
 a4:=Tryz.isAgg4
 z4:=Tryz.sizeOf4
 v4:=Tryz.zeroValue4
 t5:=Tryz.underlying5
 a5:=Tryz.isAgg5
 z5:=Tryz.sizeOf5
 v5:=Tryz.zeroValue5
 t9:=Tryz.underlying9
 a9:=Tryz.isAgg9
 z9:=Tryz.sizeOf9
 v9:=Tryz.zeroValue9
 t22:=Tryz.underlying23
 a22:=Tryz.isAgg23
 z22:=Tryz.sizeOf23
 v22:=Tryz.zeroValue23
 t25:=Tryz.underlying141
 a25:=Tryz.isAgg141
 z25:=Tryz.sizeOf141
 v25:=Tryz.zeroValue141
 t39:=Tryz.underlying169
 a39:=Tryz.isAgg169
 z39:=Tryz.sizeOf169
 v39:=Tryz.zeroValue169
 t45:=Tryz.underlying191
 a45:=Tryz.isAgg191
 z45:=Tryz.sizeOf191
 v45:=Tryz.zeroValue191
 t46:=Tryz.underlying192
 a46:=Tryz.isAgg192
 z46:=Tryz.sizeOf192
 v46:=Tryz.zeroValue192
 t50:=Tryz.underlying76
 a50:=Tryz.isAgg76
 z50:=Tryz.sizeOf76
 v50:=Tryz.zeroValue76
 t53:=Tryz.underlying198
 a53:=Tryz.isAgg198
 z53:=Tryz.sizeOf198
 v53:=Tryz.zeroValue198
 t55:=Tryz.underlying200
 a55:=Tryz.isAgg200
 z55:=Tryz.sizeOf200
 v55:=Tryz.zeroValue200
 t66:=Tryz.underlying212
 a66:=Tryz.isAgg212
 z66:=Tryz.sizeOf212
 v66:=Tryz.zeroValue212
 t70:=Tryz.underlying216
 a70:=Tryz.isAgg216
 z70:=Tryz.sizeOf216
 v70:=Tryz.zeroValue216
 t76:=Tryz.underlying223
 a76:=Tryz.isAgg223
 z76:=Tryz.sizeOf223
 v76:=Tryz.zeroValue223
 t77:=Tryz.underlying224
 a77:=Tryz.isAgg224
 z77:=Tryz.sizeOf224
 v77:=Tryz.zeroValue224 }
open Go.RowKit Go.Lib Go.Sort in
theorem Tryz.slices_SortFunc_f58{α:Type}[Inhabited α](k:Nat)(aE:∀w,(isAgg (Tryz.laysSlF06_f58_ren.t 24)).run Tryz.prog w=.ok true w)(zE:∀w,(Go.sizeOf (Tryz.laysSlF06_f58_ren.t 24)).run Tryz.prog w=.ok k w)(enc:α->List Value)(hk:∀x,(enc x).length=k)(h1:∀x,∀v∈enc x,v.oneCell'=true)(cf:α->α->Int)(hO:SWO (ltOf cf))(g:Nat)(cb:Array Value)(blk off cap:Nat)(d:Array α)(w:World)(eg:∀args w,(callFunc g args).run Tryz.prog w=.ok (.enter g args) w)(hcmp:CmpLays Tryz.prog g cb enc k cf blk off d.size w)(hH:HoldsK enc k w blk off d)(hblk:blk<w.heap.size)(hsz:d.size<4611686018427387904):
  Calls Tryz.prog 58 #[.slice (some ⟨blk,off,none⟩) d.size cap,.func (.func g) #[] cb] w fun e w'=>
   e=.returned (.tuple #[])/\∃d' n os,PermIn 0 d.size d d'/\SortedIn (ltOf cf) 0 d.size d'/\w'=sortWorldK enc k w blk off n d' os:=AnyQ.slices_SortFunc Tryz.laysSlF06_f58 k aE zE enc hk h1 cf hO g cb blk off cap d w eg hcmp hH hblk hsz
open Go.RowKit Go.Lib Go.Sort in
theorem Tryz.slices_SortFunc_f60{α:Type}[Inhabited α](k:Nat)(aE:∀w,(isAgg (Tryz.laysSlF06_f60_ren.t 24)).run Tryz.prog w=.ok true w)(zE:∀w,(Go.sizeOf (Tryz.laysSlF06_f60_ren.t 24)).run Tryz.prog w=.ok k w)(enc:α->List Value)(hk:∀x,(enc x).length=k)(h1:∀x,∀v∈enc x,v.oneCell'=true)(cf:α->α->Int)(hO:SWO (ltOf cf))(g:Nat)(cb:Array Value)(blk off cap:Nat)(d:Array α)(w:World)(eg:∀args w,(callFunc g args).run Tryz.prog w=.ok (.enter g args) w)(hcmp:CmpLays Tryz.prog g cb enc k cf blk off d.size w)(hH:HoldsK enc k w blk off d)(hblk:blk<w.heap.size)(hsz:d.size<4611686018427387904):
  Calls Tryz.prog 60 #[.slice (some ⟨blk,off,none⟩) d.size cap,.func (.func g) #[] cb] w fun e w'=>
   e=.returned (.tuple #[])/\∃d' n os,PermIn 0 d.size d d'/\SortedIn (ltOf cf) 0 d.size d'/\w'=sortWorldK enc k w blk off n d' os:=AnyQ.slices_SortFunc Tryz.laysSlF06_f60 k aE zE enc hk h1 cf hO g cb blk off cap d w eg hcmp hH hblk hsz
open Go.RowKit Go.Lib Go.Sort in
theorem Tryz.slices_SortFunc_none_f58{α:Type}[Inhabited α](p:Option Addr)(cap:Nat)(fv:Value)(w:World):
  Calls Tryz.prog 58 #[.slice p 0 cap,fv] w fun e w'=>e=.returned (.tuple #[])/\w'=w:=AnyF.slices_SortFunc_none Tryz.laysSlF06_f58 p cap fv w
open Go.RowKit Go.Lib Go.Sort in
theorem Tryz.slices_SortFunc_none_f60{α:Type}[Inhabited α](p:Option Addr)(cap:Nat)(fv:Value)(w:World):
  Calls Tryz.prog 60 #[.slice p 0 cap,fv] w fun e w'=>e=.returned (.tuple #[])/\w'=w:=AnyF.slices_SortFunc_none Tryz.laysSlF06_f60 p cap fv w
end Go.Proofs
