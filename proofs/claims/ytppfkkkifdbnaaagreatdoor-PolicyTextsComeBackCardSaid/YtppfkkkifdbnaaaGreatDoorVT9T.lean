/- Part of the proof. -/
import Derived.Lib.SplitLaws
import Derived.Lib.SmallJoins
import Derived.Lib.Atoi
import Derived.Shelf.Strings.Builder1
import Derived.Lib.Join
import Derived.Test.YtppfkkkifdbnaaaGreatDoorVQDT
set_option linter.unusedSimpArgs false
set_option linter.unusedVariables false
namespace Go.Pv
open Go
theorem pure_atoi{gl:Gl}{P:Program}{f:FuncId}{s:List UInt8}{n:Int}(hl:s.length<=18)
  (h:∀w:World,(⟨s.toArray⟩:ByteArray).size<=18->Calls P f #[.string ⟨s.toArray⟩] w fun e w'=>e=.returned (.tuple #[.int .i64 n,.nilIface])/\∃t,w'=Lib.bytesWorld w 5 t):
  PureG gl P f [sV s] (.tup [iV n,.con .nilIface]):=by
 have e1:(⟨s.toArray⟩:ByteArray).size=s.length:=by simp[ByteArray.size]
 refine pure_below (l:=[str s]) (v:=.tuple #[.int .i64 n,.nilIface]) (fun w=>(h w (by rw[e1];exact hl)).mono ?_) (fun m=>.tup rfl fun i c v a b=>?_)
 ·rintro e w' ⟨rfl,t,rfl⟩
  exact⟨rfl,Go.Joins.below_bytesWorld _ w 5 t (ab8 _),trivial⟩
 ·match i with
  |0=>simp at a b;subst a b;exact .con _
  |1=>simp at a b;subst a b;exact .con _
  |i+2=>simp at a
end Go.Pv
namespace Go.Pv
open Go Go.RowKit Go.Lib Go.Shelf Go.Proofs
def BufAt(e:TypeId)(b:Nat)(v:Value)(bs:List UInt8)(w:World):Prop:=
 (v=.slice none 0 0/\bs=[])\/∃g c cur,v=.slice (some ⟨g,0,none⟩) bs.length c/\g≠b/\w.heap[g]? = some (.cells cur e (0,0))/\cur.size=c/\bs.length<=c/\c<=maxLen/\c≠0/\
  ∀(i:Nat) (x:UInt8),bs[i]? = some x->cur[i]? = some (.int .u8 x.toNat)
theorem strCells_get(s:List UInt8)(i:Nat):(strCells (⟨s.toArray⟩:ByteArray))[i]? = (s[i]?).map fun x=>Value.int .u8 (x.toNat:Int):=by simp[strCells]
theorem bsize(s:List UInt8):(⟨s.toArray⟩:ByteArray).size=s.length:=by simp[ByteArray.size]
theorem run_buf{P:Program}(w:World)(t u ty e b:TypeId)(i:TypeInfo)(ht:P.underlying t=some (.slice e))(hu:P.underlying u=some .string)(hi:P.info? e=some i)(hz:i.zero=some (.int .u8 0))
    (hsize:i.size=1) (hby:i.bytes=1) (v:Value) (bs s:List UInt8) (h:BufAt e b v bs w) (hb:b<w.heap.size) (hl:bs.length+s.length<=140737488355328):
    ∃v' w',(Builtin.append_ #[t,u] ty #[v,.string ⟨s.toArray⟩]).run P w=.ok v' w'/\BufAt e b v' (bs++s) w'/\w.grownBy w' v.ownBlock/\w.drawn<=w'.drawn/\(∀g,v'.ownBlock=some g->v.ownBlock=some g\/g=w.heap.size):=by
  rcases h with ⟨rfl,rfl⟩|⟨g,c,cur,rfl,hne,hg,hc,hlc,hcm,hnb,hcells⟩
  · by_cases hm:s=[]
    · subst hm
      refine⟨.slice none 0 0,w,?_,.inl ⟨rfl,rfl⟩,⟨rfl,rfl,rfl,ab8 _,fun _ _ _=>rfl⟩,ab8 _,fun g hg=>by simp[Value.ownBlock] at hg⟩
      have hf:=run_firstCells_string (P:=P) w 1 ⟨#[]⟩
      simp[Builtin.append_,run_underlying ht,run_underlying hu,sizeOf,typeInfo,hi,Builtin.lenOf,ByteArray.size,Builtin.firstCells]
    · have hs0:0<s.length:=List.length_pos_iff.2 hm
      have hr:=run_append_nil_string (P:=P) w t u ty e i (.int .u8 0) ht hu hi hz ⟨s.toArray⟩ (by rw[bsize];omega) (by rw[bsize];omega) (by rw[hby,bsize];omega)
      have hge:=grownCap_ge w s.length 0 e
      have hcm:grownCap w s.length 0 e<=maxLen:=grownCap_le_maxLen w s.length 0 e (by unfold maxLen;omega)
      rw[bsize] at hr
      refine⟨_,_,hr,.inr ⟨w.heap.size,_,_,rfl,Nat.ne_of_gt hb,_root_.Go.heap_alloc_new w.drew _,?_,by simpa using hge,hcm,by omega,?_⟩,⟨rfl,rfl,rfl,by simp,fun k hk _=>_root_.Go.heap_alloc_old w.drew _ hk⟩,by simp,fun g hg=>.inr (by simpa[Value.ownBlock] using hg.symm)⟩
      · have hz1:(Value.int IntKind.u8 0).cells.size=1:=rfl
        simp only[bp8,be8,zeroCells_size,hz1,Array.size_map]
        simp
        omega
      · intro i x hx
        have hlt:i<s.length:=(aw8.1 (by simpa using hx)).1
        rw[bq9,if_pos (by simpa using hlt)]
        simp at hx
        simp[hx]
  · by_cases hroom:bs.length+s.length<=c
    · have hr:=run_append_room_string (P:=P) w t u ty e i ht hu hi hsize g bs.length c cur hg ⟨s.toArray⟩ (by rw[bsize];exact hroom) (by rw[bsize];omega)
      rw[bsize] at hr
      refine⟨_,_,hr,.inr ⟨g,c,_,by simp,hne,setRow_heap w g cur _ e _ hg,?_,by simpa using hroom,hcm,hnb,?_⟩,⟨rfl,rfl,rfl,by simp,fun k _ hk=>setRow_other w g k _ (fun e=>hk (by simp[Value.ownBlock,e]))⟩,by simp,fun g' hg'=>.inl hg'⟩
      · simp[strCells_length,bsize];omega
      · intro i x hx
        rw[az8,bo8]
        by_cases hi':i<bs.length
        · rw[ao9 hi'] at hx
          rw[ao9 (by simp;omega),ba9,if_pos hi']
          simpa using hcells i x hx
        · rw[ao8 (by omega)] at hx
          have hl1:(cur.toList.take bs.length).length=bs.length:=by simp;omega
          have hlt:i - bs.length<s.length:=(aw8.1 hx).1
          rw[ao8 (by omega),hl1,ao9 (by rw[strCells_length,bsize];exact hlt),strCells_get,hx];rfl
    · have hr:=run_append_grow_string (P:=P) w t u ty e i (.int .u8 0) ht hu hi hz ⟨g,0,none⟩ bs.length c (bs.map fun x=>Value.int .u8 (x.toNat:Int)) (by simp[hsize]) (fun j x hx=>by
          rw[at9] at hx
          cases hbj:bs[j]? with
          |none=>rw[hbj] at hx;cases hx
          |some y=>
            rw[hbj] at hx;cases hx
            have hadd:(⟨g,0,none⟩:Addr).add j=⟨g,j,none⟩:=by unfold Addr.add;split<;>simp_all
            rw[hadd,cell_of_row w g j cur e (0,0) hg]
            exact hcells j y hbj) ⟨s.toArray⟩ (by rw[bsize];omega) (by rw[bsize];omega) (by rw[hby,bsize];exact growslice_fits (by omega) (by omega))
      have hge:=grownCap_ge w (bs.length+s.length) c e
      have hcm:grownCap w (bs.length+s.length) c e<=maxLen:=grownCap_le_maxLen w (bs.length+s.length) c e (by unfold maxLen;omega)
      rw[bsize] at hr
      refine⟨_,_,hr,.inr ⟨w.heap.size,_,_,by simp,Nat.ne_of_gt hb,_root_.Go.heap_alloc_new w.drew _,?_,by simpa using hge,hcm,by omega,?_⟩,⟨rfl,rfl,rfl,by simp,fun k hk _=>_root_.Go.heap_alloc_old w.drew _ hk⟩,by simp,fun g hg=>.inr (by simpa[Value.ownBlock] using hg.symm)⟩
      · have hz1:(Value.int IntKind.u8 0).cells.size=1:=rfl
        simp only[bp8,be8,zeroCells_size,hz1,strCells_length,bsize,bb8]
        omega
      · intro i x hx
        have hlt:i<(bs++s).length:=(aw8.1 hx).1
        rw[bq9,if_pos (by simp[strCells_length,bsize];simpa using hlt)]
        by_cases hi':i<bs.length
        · rw[ao9 hi'] at hx
          rw[bq9,if_pos (by simpa using hi')]
          simp[hx]
        · rw[ao8 (by omega)] at hx
          rw[bq9,if_neg (by simpa using hi')]
          simp[strCells_get,hx]
theorem freeze_other{w:World}{g n k c:Nat}{m:Nat}(h:(Value.slice (some ⟨g,0,none⟩) m c).ownBlock≠some k):(w.drew.freeze ⟨g,0,none⟩ n).heap[k]? = w.heap[k]?:=by
 have hk:g≠k:=fun e=>h (by simp[Value.ownBlock,e])
 unfold World.freeze
 split
 ·rfl
 ·simp only[bf8];rw[if_neg hk];rfl
theorem freeze_size(w:World)(g n:Nat):(w.drew.freeze ⟨g,0,none⟩ n).heap.size=w.heap.size:=by
 unfold World.freeze
 split
 ·rfl
 ·simp
theorem freeze_same(w:World)(g n:Nat):Same w (w.drew.freeze ⟨g,0,none⟩ n):=by
 unfold World.freeze
 split
 ·exact⟨rfl,rfl,rfl,trivial⟩
 ·exact⟨rfl,rfl,rfl,trivial⟩
section
variable{P:Program}{ρ:Go.Shelf.Ren}
theorem bld_check(L:Lays.n240 P ρ)(X:Builder.X72 P ρ)(b:Nat)(p v:Value)(w:World)(hbk:w.heap[b]? = some (.cells #[p,v] (ρ.t 72) (0,0)))(hp:p=.pointer none\/p=.pointer (some ⟨b,0,none⟩)):
  Calls P (ρ.f 240) #[.pointer (some ⟨b,0,none⟩)] w fun e w'=>e=.returned (.tuple #[])/\w'.heap[b]? = some (.cells #[.pointer (some ⟨b,0,none⟩),v] (ρ.t 72) (0,0))/\(∀k,k≠b->w'.heap[k]? = w.heap[k]?)/\w'.heap.size=w.heap.size/\Same w w':=by
 have c0:w.cell? ⟨b,0,none⟩=some p:=by rw[Lib.cell_of_heap hbk];rfl
 rcases hp with rfl|rfl
 ·refine(Any.Builder_copyCheck_fresh L X b w c0 (by simp[World.shape?,hbk]) (Lib.frozen_of_heap hbk 0)).mono ?_
  rintro e w' ⟨rfl,rfl⟩
  refine⟨rfl,?_,fun k hk=>Below.heap_setCell _ _ _ _ hk,by simp[World.setCell],⟨rfl,rfl,rfl,trivial⟩⟩
  simp[World.setCell,bf8,hbk]
 ·refine(Any.Builder_copyCheck_used L X b w c0).mono ?_
  rintro e w' ⟨rfl,rfl⟩
  exact⟨rfl,hbk,fun _ _=>rfl,rfl,⟨rfl,rfl,rfl,trivial⟩⟩
theorem wpList_buf{ops:Array Oper}{rest:List Oper}{o:Oper}{a:Act}{Q:Exit->Act->World->Prop}{w:World}(hgd:o.guard=none)(sl x:Operand)(t u:TypeId)
  (ho:o.op=.call { callee:=.builtin .append,args:=#[sl,x],argTypes:=#[t,u] })
  (e b:Nat) (i:TypeInfo) (ht:P.underlying t=some (.slice e)) (hu:P.underlying u=some .string) (hi:P.info? e=some i) (hz:i.zero=some (.int .u8 0)) (hsize:i.size=1) (hby:i.bytes=1)
  (v:Value) (bs s:List UInt8) (hs:a.eval sl=v) (hv:BufAt e b v bs w) (hx:a.eval x=.string ⟨s.toArray⟩) (hb:b<w.heap.size) (hl:bs.length+s.length<=140737488355328)
  (h:∀v' w',BufAt e b v' (bs++s) w'->w.grownBy w' v.ownBlock->w.drawn<=w'.drawn->(∀g,v'.ownBlock=some g->v.ownBlock=some g\/g=w.heap.size)->wpList P ops Q rest (a.put o.dst v') w'):wpList P ops Q (o::rest) a w:=by
 refine wpList_plain hgd fun K hK=>?_
 obtain⟨v',w',hr,h2,h3,h4,h5⟩:=run_buf (P:=P) w t u o.type e b i ht hu hi hz hsize hby v bs s hv hb hl
 unfold Oper.wp execOp
 simp only[ho,resolve,invoke,builtin,Sem.run_bind,Sem.run_pure,Result.andThen_ok,bd9,bd8,ak8,hs,hx,hr]
 exact hK _ _ (h v' w' h2 h3 h4 h5)
theorem BufAt.shape{e b:Nat}{v:Value}{bs:List UInt8}{w:World}(h:BufAt e b v bs w):∃ao n c,v=.slice ao n c:=by
 rcases h with ⟨rfl,_⟩|⟨g,c,_,rfl,_⟩
 ·exact⟨_,_,_,rfl⟩
 ·exact⟨_,_,_,rfl⟩
theorem BufAt.kept{e b:Nat}{v:Value}{bs:List UInt8}{w w':World}(h:BufAt e b v bs w)(hk:∀k,k≠b->w'.heap[k]? = w.heap[k]?):BufAt e b v bs w':=by
 rcases h with h|⟨g,c,cur,h1,h2,h3,h4⟩
 ·exact .inl h
 ·exact .inr ⟨g,c,cur,h1,h2,by rw[hk g h2];exact h3,h4⟩
set_option maxHeartbeats 2000000 in
set_option maxRecDepth 100000 in
theorem bld_write(L:Lays.n166 P ρ)(X:Builder.Extra P ρ)(b:Nat)(p v:Value)(bs s:List UInt8)(w:World)(hbk:w.heap[b]? = some (.cells #[p,v] (ρ.t 72) (0,0)))(hp:p=.pointer none\/p=.pointer (some ⟨b,0,none⟩))
  (hv:BufAt (ρ.t 5) b v bs w) (hl:bs.length+s.length<=140737488355328):
  Calls P (ρ.f 166) #[.pointer (some ⟨b,0,none⟩),.string ⟨s.toArray⟩] w fun e w'=>e=.returned (.tuple #[.int .i64 s.length,.nilIface])/\∃v',w'.heap[b]? = some (.cells #[.pointer (some ⟨b,0,none⟩),v'] (ρ.t 72) (0,0))/\
   BufAt (ρ.t 5) b v' (bs++s) w'/\(∀k,k<w.heap.size->k≠b->v.ownBlock≠some k->w'.heap[k]? = w.heap[k]?)/\w.heap.size<=w'.heap.size/\Same w w'/\∀g,v'.ownBlock=some g->v.ownBlock=some g\/w.heap.size<=g:=by
 obtain⟨i0,hi,hz0,hz1,hz2⟩:=info_parts X.infoByte
 have mixed:=L.mixed
 have t72:=L.t72;have a72:=L.a72;have z72:=L.z72;have v72:=L.v72;have u72:=run_underlying L.t72
 have t70:=L.t70;have a70:=L.a70;have z70:=L.z70;have v70:=L.v70;have u70:=run_underlying L.t70
 have t37:=L.t37;have a37:=L.a37;have z37:=L.z37;have v37:=L.v37;have u37:=run_underlying L.t37
 have t3:=L.t3;have a3:=L.a3;have z3:=L.z3;have v3:=L.v3;have u3:=run_underlying L.t3
 have t9:=L.t9;have a9:=L.a9;have z9:=L.z9;have v9:=L.v9;have u9:=run_underlying L.t9
 have e240:∀args w,(callFunc (ρ.f 240) args).run P w=.ok (.enter (ρ.f 240) args) w:=enters_of L.f240 (by kernel_rfl) rfl
 have hsz:(⟨s.toArray⟩:ByteArray).size=s.length:=bsize s
 go_enter L.f166,Body.n166_ntmps ρ
 go_wp2_with (go_at_fn (ρ.f 240);refine(bld_check { L with } X.toX72 b p v _ hbk hp).mono ?_)
 rintro e w1 ⟨rfl,hb1,hk1,hs1,hsame1⟩
 have hlt:b<w1.heap.size:=lt_of_some hb1
 have hv1:=hv.kept hk1
 have c0:w1.cell? ⟨b,0,none⟩=some (.pointer (some ⟨b,0,none⟩)):=by rw[Lib.cell_of_heap hb1];rfl
 have c1:w1.cell? ⟨b,1,none⟩=some v:=by rw[Lib.cell_of_heap hb1];rfl
 go_wp2_with (at_builtin;refine wpList_buf rfl _ _ (ρ.t 37) (ρ.t 9) rfl (ρ.t 5) b i0 L.t37 L.t9 hi hz0 hz1 hz2 v bs s rfl hv1 rfl hlt hl ?_)
 intro v' w2 hv2 hgrow hdr hown
 have hvb:some b≠v.ownBlock:=by
  rcases hv1 with ⟨rfl,_⟩|⟨g,c,cur,rfl,hne,_⟩
  ·simp[Value.ownBlock]
  ·simp[Value.ownBlock];exact fun h=>hne h.symm
 have hb2:w2.heap[b]? = some (.cells #[.pointer (some ⟨b,0,none⟩),v] (ρ.t 72) (0,0)):=by
  rw[hgrow.block b hlt hvb];exact hb1
 have d0:w2.cell? ⟨b,0,none⟩=some (.pointer (some ⟨b,0,none⟩)):=by rw[Lib.cell_of_heap hb2];rfl
 have d1:w2.cell? ⟨b,1,none⟩=some v:=by rw[Lib.cell_of_heap hb2];rfl
 have f1:w2.frozen? ⟨b,1,none⟩=false:=Lib.frozen_of_heap hb2 1
 obtain⟨ao,n',cap,rfl⟩:=hv2.shape
 go_wp2
 go_ret2
 refine⟨rfl,_,?_,hv2.kept (fun k hk=>Below.heap_setCell _ _ _ _ hk),?_,?_,?_,?_⟩
 ·simp[World.setCell,bf8,hb2]
 ·intro k hk hkb hkv
  rw[Below.heap_setCell _ _ _ _ hkb,hgrow.block k (by omega) (Ne.symm hkv),hk1 k hkb]
 ·have:=hgrow.size;simp[World.setCell];omega
 ·exact⟨hgrow.os.trans hsame1.os,hgrow.tape.trans hsame1.tape,hgrow.output.trans hsame1.output,trivial⟩
 ·intro g hg
  rcases hown g hg with h|h
  ·exact .inl h
  ·exact .inr (by omega)
set_option maxHeartbeats 2000000 in
set_option maxRecDepth 100000 in
theorem bld_string(L:Lays.n169 P ρ)(X:Builder.Extra P ρ)(b:Nat)(p v:Value)(bs:List UInt8)(w:World)(hbk:w.heap[b]? = some (.cells #[p,v] (ρ.t 72) (0,0)))(hv:BufAt (ρ.t 5) b v bs w):
  Calls P (ρ.f 169) #[.pointer (some ⟨b,0,none⟩)] w fun e w'=>e=.returned (.string ⟨bs.toArray⟩)/\(∀k,v.ownBlock≠some k->w'.heap[k]? = w.heap[k]?)/\w'.heap.size=w.heap.size/\Same w w':=by
 have c1:w.drew.cell? ⟨b,1,none⟩=some v:=by
  have:w.drew.heap[b]? = some (.cells #[p,v] (ρ.t 72) (0,0)):=hbk
  rw[Lib.cell_of_heap this];rfl
 rcases hv with ⟨rfl,rfl⟩|⟨g,cap,cur,rfl,hne,hg,hcs,hnc,hcm,h0,hcells⟩
 ·have hUS:=Any.unsafeString_none L X
  have hSD:(Builtin.unsafeSliceData_ #[(ρ.t 37)] (ρ.t 127) #[.slice none 0 0]).run P w.drew=.ok (.pointer none) w.drew:=rfl
  have mixed:=L.mixed
  have t72:=L.t72;have a72:=L.a72;have z72:=L.z72;have v72:=L.v72;have u72:=run_underlying L.t72
  have t70:=L.t70;have a70:=L.a70;have z70:=L.z70;have v70:=L.v70;have u70:=run_underlying L.t70
  have t37:=L.t37;have a37:=L.a37;have z37:=L.z37;have v37:=L.v37;have u37:=run_underlying L.t37
  have t127:=L.t127;have a127:=L.a127;have z127:=L.z127;have v127:=L.v127;have u127:=run_underlying L.t127
  have t3:=L.t3;have a3:=L.a3;have z3:=L.z3;have v3:=L.v3;have u3:=run_underlying L.t3
  have t9:=L.t9;have a9:=L.a9;have z9:=L.z9;have v9:=L.v9;have u9:=run_underlying L.t9
  have t5:=X.t5;have a5:=X.a5;have z5:=X.z5;have v5:=X.v5;have u5:=run_underlying X.t5
  go_enter L.f169,Body.n169_ntmps ρ
  go_wp2
  go_region_o
  all_goals (go_wp2;go_ret;exact⟨rfl,fun _ _=>rfl,rfl,⟨rfl,rfl,rfl,trivial⟩⟩)
 ·by_cases hb0:bs=[]
  ·subst hb0
   have hSD:(Builtin.unsafeSliceData_ #[(ρ.t 37)] (ρ.t 127) #[.slice (some ⟨g,0,none⟩) 0 cap]).run P w.drew=.ok (.pointer (some ⟨g,0,none⟩)) w.drew:=
    Lib.run_unsafeSliceData_row _ _ _ _ _ _ h0
   have hUS:=Any.unsafeString_none L X
   have mixed:=L.mixed
   have t72:=L.t72;have a72:=L.a72;have z72:=L.z72;have v72:=L.v72;have u72:=run_underlying L.t72
   have t70:=L.t70;have a70:=L.a70;have z70:=L.z70;have v70:=L.v70;have u70:=run_underlying L.t70
   have t37:=L.t37;have a37:=L.a37;have z37:=L.z37;have v37:=L.v37;have u37:=run_underlying L.t37
   have t127:=L.t127;have a127:=L.a127;have z127:=L.z127;have v127:=L.v127;have u127:=run_underlying L.t127
   have t3:=L.t3;have a3:=L.a3;have z3:=L.z3;have v3:=L.v3;have u3:=run_underlying L.t3
   have t9:=L.t9;have a9:=L.a9;have z9:=L.z9;have v9:=L.v9;have u9:=run_underlying L.t9
   have t5:=X.t5;have a5:=X.a5;have z5:=X.z5;have v5:=X.v5;have u5:=run_underlying X.t5
   go_enter L.f169,Body.n169_ntmps ρ
   go_wp2
   go_region_o
   all_goals (go_wp2;go_ret;exact⟨rfl,fun _ _=>rfl,rfl,⟨rfl,rfl,rfl,trivial⟩⟩)
  have hl0:bs.length≠0:=by simpa using hb0
  have hSD:(Builtin.unsafeSliceData_ #[(ρ.t 37)] (ρ.t 127) #[.slice (some ⟨g,0,none⟩) bs.length cap]).run P w.drew=.ok (.pointer (some ⟨g,0,none⟩)) w.drew:=
   Lib.run_unsafeSliceData_row _ _ _ _ _ _ (by omega)
  have hUS:(Builtin.unsafeString_ #[(ρ.t 127),(ρ.t 3)] (ρ.t 9) #[.pointer (some ⟨g,0,none⟩),.int .i64 bs.length]).run P w.drew=.ok (.string ⟨bs.toArray⟩) (w.drew.freeze ⟨g,0,none⟩ bs.length):=by
   refine Lib.run_unsafeString_row w.drew (ρ.t 127) (ρ.t 3) (ρ.t 9) (ρ.t 5) L.t127 X.cellsByte g cur.size (by have hg':w.drew.heap[g]? = some (.cells cur (ρ.t 5) (0,0)):=hg;simp[World.shape?,hg']) bs hb0 (by omega) (by unfold maxLen at hcm;omega) ?_
   intro j x hx
   have hg':w.drew.heap[g]? = some (.cells cur (ρ.t 5) (0,0)):=hg
   have hadd:(⟨g,0,none⟩:Addr).add j=⟨g,j,none⟩:=by unfold Addr.add;split<;>simp_all
   first
   |rw[hadd,cell_of_row w.drew g j cur (ρ.t 5) (0,0) hg'];exact hcells j x hx
   |rw[cell_of_row w.drew g j cur (ρ.t 5) (0,0) hg'];exact hcells j x hx
  have mixed:=L.mixed
  have t72:=L.t72;have a72:=L.a72;have z72:=L.z72;have v72:=L.v72;have u72:=run_underlying L.t72
  have t70:=L.t70;have a70:=L.a70;have z70:=L.z70;have v70:=L.v70;have u70:=run_underlying L.t70
  have t37:=L.t37;have a37:=L.a37;have z37:=L.z37;have v37:=L.v37;have u37:=run_underlying L.t37
  have t127:=L.t127;have a127:=L.a127;have z127:=L.z127;have v127:=L.v127;have u127:=run_underlying L.t127
  have t3:=L.t3;have a3:=L.a3;have z3:=L.z3;have v3:=L.v3;have u3:=run_underlying L.t3
  have t9:=L.t9;have a9:=L.a9;have z9:=L.z9;have v9:=L.v9;have u9:=run_underlying L.t9
  have t5:=X.t5;have a5:=X.a5;have z5:=X.z5;have v5:=X.v5;have u5:=run_underlying X.t5
  go_enter L.f169,Body.n169_ntmps ρ
  go_wp2
  go_region_o
  all_goals (go_wp2;go_ret;exact⟨rfl,fun k hk=>freeze_other hk,freeze_size _ _ _,freeze_same _ _ _⟩)
end
theorem ObSub.bld{Y:Hy}{T e:Nat}{l:List UInt8}{fr:Bool}:ObSub Y (.bld T e l fr) (.bld T e l fr):=⟨rfl,rfl,rfl,rfl⟩
section
variable{P:Program}{ρ:Go.Shelf.Ren}
theorem one_of{vs:Array Value}(h:vs.size=1):∃a,vs=#[a]:=by
 obtain⟨l⟩:=vs
 match l,h with
 |[a],_=>exact⟨a,rfl⟩
theorem two_of'{vs:Array Value}(h:vs.size=2):∃a b,vs=#[a,b]:=by
 obtain⟨l⟩:=vs
 match l,h with
 |[a,b],_=>exact⟨a,b,rfl⟩
theorem mut_bld{gl:Gl}{f id k:Nat}{hp:Heap}{T e:Nat}{bs bs':List UInt8}{args:List V}{rv:Value}{fr:Bool}(dead:Bool)(hTe:T≠e)(ho:hget hp id=.bld T e bs fr)(hargs0:args[0]? = some (.ptr id 2 0 0))
  (hC:∀(b:Nat) (p v:Value) (w:World) (vs:Array Value),vs.size=args.length->vs[0]? = some (.pointer (some ⟨b,0,none⟩))->(∀(i:Nat) c u,args[i+1]? = some (.con c)->vs[i+1]? = some u->u=c)->w.heap[b]? = some (.cells #[p,v] T (0,0))->
   (p=.pointer none\/p=.pointer (some ⟨b,0,none⟩))->BufAt e b v bs w->(fr=true->p=.pointer none/\v=.slice none 0 0)->
   Calls P f vs w fun x w'=>x=.returned rv/\∃p' v',(dead=false->w'.heap[b]? = some (.cells #[p',v'] T (0,0))/\(p'=.pointer none\/p'=.pointer (some ⟨b,0,none⟩))/\BufAt e b v' bs' w')/\
    (∀k,k<w.heap.size->k≠b->v.ownBlock≠some k->w'.heap[k]? = w.heap[k]?)/\w.heap.size<=w'.heap.size/\Same w w'/\∀g,v'.ownBlock=some g->v.ownBlock=some g\/w.heap.size<=g)
  {d:V} (hd:∀m β,VRel m β d rv) (hcon:∀(i:Nat) x,args[i+1]? = some x->∃c,x=.con c):
  MutG gl P f args k hp d k ((id,bif dead then .dead else .bld T e bs')::hp):=by
 intro m β w vs himm _ hargs hown hpriv hinj hhid hnx
 have hlid:hget hp id≠.dead:=by rw[ho];simp
 have hv0:0<vs.size:=by rw[<-hargs.len];exact(aw8.1 hargs0).1
 have hp0:=hargs.at' 0 _ _ hargs0 (av9 hv0)
 generalize hu0:vs[0]=u0 at hp0
 cases hp0 with
 |imm h=>cases h
 | @ptr _ _ _ _ b cap hb=>
  have hob:=hown id
  rw[hb,ho] at hob
  obtain⟨hoff,_,p,v,hfr,hbk,hpp,hbuf⟩:=hob
  rw[hoff] at hu0
  have hbw:BufAt e b v bs w:=hbuf.imp (fun x=>x) fun⟨g,c,cur,a1,a2,a3,a4⟩=>⟨g,c,cur,a1,a3,a4⟩
  have hgB:∀g,v.ownBlock=some g->β.hid id g:=by
   intro g hg
   rcases hbuf with ⟨rfl,_⟩|⟨g',c,cur,rfl,a2,_⟩
   ·simp[Value.ownBlock] at hg
   ·simp[Value.ownBlock] at hg;subst hg;exact a2
  have hblt:b<w.heap.size:=lt_of_some hbk
  refine(hC b p v w vs hargs.len.symm (by rw[av9 hv0,hu0]) (fun i c u h1 h2=>(hargs.at' _ _ _ h1 h2).of_con) hbk hpp hbw hfr).mono ?_
  rintro ex w' ⟨rfl,p',v',hnew,hkeep,hsz,hsame,hgs⟩
  generalize hob2:(bif dead then Ob.dead else Ob.bld T e bs')=ob2
  have hg:∀q,hget ((id,ob2)::hp) q=if id=q then ob2 else hget hp q:=fun q=>hget_put _ _ _ _
  have hlive:∀q,hget ((id,ob2)::hp) q≠.dead->hget hp q≠.dead:=fun q hq=>by
   rw[hg] at hq
   split at hq
   ·rename_i hh;subst hh;exact hlid
   ·exact hq
  have hmn:∀x,w.heap.size<=x->m x=none:=fun x hx=>by
   cases hmx:m x with
   |none=>rfl
   |some o=>have:=lt_of_some (himm x o hmx);omega
  have hllt:∀q b c,hget hp q≠.dead->β q=some (some (b,c))->b<w.heap.size:=fun q b c hq hb'=>by
   exact live_lt hq hb' (hown q)
  have hkp:∀k,k<w.heap.size->k≠b->¬β.hid id k->w'.heap[k]? = w.heap[k]?:=fun k h1 h2 h3=>hkeep k h1 h2 fun h=>h3 (hgB k h)
  let β':Locs:=⟨β.f,fun i x=>if i=id then v'.ownBlock=some x else β.hid i x⟩
  have hhi:∀i x,i≠id->(β'.hid i x<->β.hid i x):=fun i x h=>by simp[β',h]
  have hhid':∀x,β'.hid id x<->v'.ownBlock=some x:=fun x=>by simp[β']
  refine⟨rv,m,β',rfl,hd _ _,Mem.le_refl _,?_,?_,hsz,hsame,?_,?_,?_,?_,hnx,fun q hq=>⟨hq,rfl⟩⟩
  ·intro x o hx
   have hx1:=himm x o hx
   rw[hkp x (lt_of_some hx1) (fun e=>by rw[e,hpriv id b cap hlid hb] at hx;cases hx) (fun h=>by rw[(hhid id x hlid h).2.1] at hx;cases hx)]
   exact hx1
  ·intro x hx hF
   exact⟨rfl,hkp x hx (fun e=>(hF id hlid).1 cap (by rw[e];exact hb)) (hF id hlid).2⟩
  ·intro q
   rw[hg]
   split
   ·rename_i hh
    subst hh
    cases dead with
    |true=>simp at hob2;subst hob2;exact ObOk.dead' _
    |false=>
     simp at hob2;subst hob2
     obtain⟨n1,n2,n3⟩:=hnew rfl
     show ObOk m β' w' (β'.hid id) (β id) _
     rw[hb]
     refine⟨hoff,hTe,p',v',(by simp),n1,n2,n3.imp (fun x=>x) ?_⟩
     rintro⟨g,c,cur,a1,a2,a3,a4⟩
     exact⟨g,c,cur,a1,(hhid' g).2 (by rw[a1];rfl),a2,a3,a4⟩
   ·rename_i hh
    have hBq:β'.hid q=β.hid q:=by funext x;exact propext (hhi q x (Ne.symm hh))
    rw[hBq]
    by_cases hqd:hget hp q=.dead
    ·rw[hqd];exact ObOk.dead' _
    refine ObOk.mono (m:=m) (β:=β) (β':=β') (w:=w') (Mem.le_refl _) (fun _ _ h=>h) (fun _ _ h=>h) (fun _ _=>rfl) (ObOk.congr (w:=w) ?_ ?_ (hown q))
    ·intro b1 c1 hb1
     exact hkp b1 (hllt q b1 c1 hqd hb1) (fun e=>hh (hinj _ _ _ _ _ hlid hqd hb (by rw[<-e];exact hb1))) (fun h=>(hhid id b1 hlid h).2.2.1 q b1 c1 hqd hb1 rfl)
    ·intro x hx
     have hx':=hhid q x hqd hx
     exact hkp x hx'.1 (hx'.2.2.1 id b cap hlid hb) (fun h=>hh (hx'.2.2.2 id hlid h))
  ·intro q b1 c1 hq hb1
   have hq:=hlive q hq
   exact⟨hpriv q b1 c1 hq hb1,fun _ hF=>(hF q hq).1 c1 hb1⟩
  ·intro q q' b1 c1 c1' hq hq'
   exact hinj q q' b1 c1 c1' (hlive q hq) (hlive q' hq')
  ·intro q x hq hx
   by_cases hqi:q=id
   ·subst hqi
    have hx1:=(hhid' x).1 hx
    rw[hg,if_pos rfl] at hq
    have hdf:dead=false:=by
     cases dead with
     |true=>simp at hob2;exact absurd hob2.symm hq
     |false=>rfl
    obtain⟨n1,n2,n3⟩:=hnew hdf
    have hxs:x<w'.heap.size:=by
     rcases n3 with ⟨rfl,_⟩|⟨g,c,cur,rfl,_,a3,_⟩
     ·simp[Value.ownBlock] at hx1
     ·simp[Value.ownBlock] at hx1;subst hx1;exact lt_of_some a3
    rcases hgs x hx1 with h|h
    ·have hxq:=hhid q x hlid (hgB x h)
     refine⟨hxs,hxq.2.1,fun _ hF=>(hF q hlid).2 (hgB x h),fun i b1 c1 hi=>hxq.2.2.1 i b1 c1 (hlive i hi),fun i hi hix=>?_⟩
     by_cases hii:i=q
     ·exact hii
     ·exact hxq.2.2.2 i (hlive i hi) ((hhi i x hii).1 hix)
    ·refine⟨hxs,hmn x h,fun h'=>by omega,fun i b1 c1 hi hb1 e=>?_,fun i hi hix=>?_⟩
     ·have:=hllt i b1 c1 (hlive i hi) hb1;omega
     ·by_cases hii:i=q
      ·exact hii
      ·have:=(hhid i x (hlive i hi) ((hhi i x hii).1 hix)).1;omega
   ·have hx1:=(hhi q x hqi).1 hx
    have hq1:=hlive q hq
    have hxq:=hhid q x hq1 hx1
    refine⟨by omega,hxq.2.1,fun _ hF=>(hF q hq1).2 hx1,fun i b1 c1 hi=>hxq.2.2.1 i b1 c1 (hlive i hi),fun i hi hix=>?_⟩
    by_cases hii:i=id
    ·subst hii
     rcases hgs x ((hhid' x).1 hix) with h|h
     ·exact hxq.2.2.2 i hlid (hgB x h)
     ·omega
    ·exact hxq.2.2.2 i (hlive i hi) ((hhi i x hii).1 hix)
theorem mut_bldW{gl:Gl}(L:Lays.n166 P ρ)(X:Builder.Extra P ρ){id k:Nat}{hp:Heap}{bs s:List UInt8}(ho:hget hp id=.bld (ρ.t 72) (ρ.t 5) bs)(hl:bs.length+s.length<=140737488355328):
  MutG gl P (ρ.f 166) [.ptr id 2 0 0,.con (.string ⟨s.toArray⟩)] k hp (.tup [.con (.int .i64 s.length),.con .nilIface]) k ((id,.bld (ρ.t 72) (ρ.t 5) (bs++s))::hp):=by
 refine mut_bld (bs':=bs++s) (rv:=.tuple #[.int .i64 s.length,.nilIface]) false X.neB5 ho rfl (fun b p v w vs h1 h2 h3 h4 h5 h6 _=>?_) (fun m β=>.imm (.tup rfl ?_)) (fun i x hx=>?_)
 ·obtain⟨x,y,rfl⟩:=two_of' (vs:=vs) h1
  have hx:x=.pointer (some ⟨b,0,none⟩):=by simpa using h2
  have hy:=h3 0 (.string ⟨s.toArray⟩) y rfl rfl
  subst hx hy
  refine(bld_write L X b p v bs s w h4 h5 h6 hl).mono ?_
  rintro e w' ⟨rfl,v',q1,q2,q3,q4,q5,q6⟩
  exact⟨rfl,_,v',fun _=>⟨q1,.inr rfl,q2⟩,q3,q4,q5,q6⟩
 ·intro i c v hc hv
  match i with
  |0=>simp at hc hv;subst hc hv;exact .con _
  |1=>simp at hc hv;subst hc hv;exact .con _
  |i+2=>simp at hc
 ·match i with
  |0=>simp at hx;exact⟨_,hx.symm⟩
  |i+1=>simp at hx
theorem mut_bldL{gl:Gl}(L:Lays.n170 P ρ)(hTe:ρ.t 72≠ρ.t 5){id k:Nat}{hp:Heap}{bs:List UInt8}(ho:hget hp id=.bld (ρ.t 72) (ρ.t 5) bs):
  MutG gl P (ρ.f 170) [.ptr id 2 0 0] k hp (.con (.int .i64 bs.length)) k ((id,.bld (ρ.t 72) (ρ.t 5) bs)::hp):=by
 refine mut_bld (bs':=bs) (rv:=.int .i64 bs.length) false hTe ho rfl (fun b p v w vs h1 h2 h3 h4 h5 h6 _=>?_) (fun m β=>.imm (.con _)) (fun i x hx=>by simp at hx)
 obtain⟨x,rfl⟩:=one_of (vs:=vs) h1
 have hx:x=.pointer (some ⟨b,0,none⟩):=by simpa using h2
 subst hx
 have hB:Lib.BuilderAt (ρ.t 72) (ρ.t 5) 0 b p (bs.map fun x=>Value.int .u8 (x.toNat:Int)) w:=by
  refine⟨af8 _,v,h4,⟨by simp,?_⟩,?_⟩
  ·rcases h6 with ⟨rfl,rfl⟩|⟨g,c,cur,rfl,a2,a3,a4,a5,a6,a7,a8⟩
   ·exact .inl ⟨rfl,rfl⟩
   ·refine .inr ⟨g,c,cur,by simp,af8 _,a3,by simpa using a5,a6,by simpa using a4,?_⟩
    apply an8
    intro i
    rw[ba9,at9]
    split
    ·rename_i hi
     have hi':i<bs.length:=by simpa using hi
     rw[as8 hi',ac9,a8 i _ (as8 hi')];rfl
    ·rename_i hi
     rw[ap8 (by simpa using hi)];rfl
  ·rcases h6 with ⟨rfl,rfl⟩|⟨g,c,cur,rfl,a2,_⟩
   ·simp[Value.ownBlock]
   ·simpa[Value.ownBlock] using a2
 refine(Any.Builder_Len L 0 b _ w (by rcases h5 with rfl|rfl;exact .inl hB;exact .inr hB)).mono ?_
 rintro e w' ⟨rfl,rfl⟩
 exact⟨by simp,p,v,fun _=>⟨h4,h5,h6⟩,fun _ _ _ _=>rfl,ab8 _,⟨rfl,rfl,rfl,trivial⟩,fun g hg=>.inl hg⟩
theorem mut_bldS{gl:Gl}(L:Lays.n169 P ρ)(X:Builder.Extra P ρ){id k:Nat}{hp:Heap}{bs:List UInt8}(ho:hget hp id=.bld (ρ.t 72) (ρ.t 5) bs):
  MutG gl P (ρ.f 169) [.ptr id 2 0 0] k hp (.con (.string ⟨bs.toArray⟩)) k ((id,.dead)::hp):=by
 refine mut_bld (bs':=bs) (rv:=.string ⟨bs.toArray⟩) true X.neB5 ho rfl (fun b p v w vs h1 h2 h3 h4 h5 h6 _=>?_) (fun m β=>.imm (.con _)) (fun i x hx=>by simp at hx)
 obtain⟨x,rfl⟩:=one_of (vs:=vs) h1
 have hx:x=.pointer (some ⟨b,0,none⟩):=by simpa using h2
 subst hx
 refine(bld_string L X b p v bs w h4 h6).mono ?_
 rintro e w' ⟨rfl,q1,q2,q3⟩
 exact⟨rfl,p,v,fun h=>(by cases h),fun k _ _ hk=>q1 k hk,by omega,q3,fun g hg=>.inl hg⟩
end
section
variable{K:Ctx}{Q:Post}{S:St}
variable{m:Mem}{β:Locs}{w:World}{a:Act}
variable{ops:Array Oper}{rest:List Oper}{ty:TypeId}{pos:String}{after:Array Edge}{g:Option (Nat×Bool)}
theorem aops_allocBld{d:Nat}{T:TypeId}(e:Nat)(hTe:Nat.beq T e=false)(hz:zeroCells K.P T=some [.pointer none,.slice none 0 0])(hw:Wants ops S ⟨some d,.alloc T,ty,pos,after,g⟩ true)
  (hN:Nat.blt d K.N=true)
  (kk:AOps K ops rest Q ⟨(d,.ptr S.nx 2 0 0)::S.env,(S.nx,.bld T e [])::S.hp,S.nx+1⟩):
  AOps K ops (⟨some d,.alloc T,ty,pos,after,g⟩::rest) Q S:=by
 refine aops_runs hw (fun m β w a r=>?_) kk
 obtain⟨z,hz1,hz2⟩:=zero_run hz w
 obtain⟨β',hle,hn,r'⟩:=r.alloc (.cells z.cells T) (.bld T e []) ⟨1,0⟩ _ rfl (fun β' hle=>by
  refine⟨rfl,fun h=>by rw[h] at hTe;simp at hTe,.pointer none,.slice none 0 0,(by simp),?_,.inl rfl,.inl ⟨rfl,rfl⟩⟩
  simp only[bg9,if_true,hz2])
 refine⟨.pointer (some ⟨w.heap.size,0,none⟩),{ w with heap:=w.heap.push (.cells z.cells T) },m,β',.inl ?_,?_⟩
 rotate_left
 ·exact Rel.put r' hN (by have:=VRel.ptr (m:=m) (k:=2) (i:=0) (off:=0) hn;simpa using this)
 ·simp only[execOp,Instr.alloc]
  simp only[Sem.run_bind,hz1,Result.andThen_ok]
  rfl
end
theorem hU{σ:List Nat}{hp T:Heap}{id t e:Nat}{l:List UInt8}(hn:Nat.blt id σ.length=true)(h:hget hp (sg σ id)=.bld t e l)(r:HS σ hp T):HS σ hp ((id,.bld t e l)::T):=
 .cons hn (by rw[h];exact ObSub.bld) r
end Go.Pv
namespace Go.Pv
open Go Go.RowKit
theorem irel_strs{m:Mem}{w:World}{xs:List (List UInt8)}{enc:List UInt8->List V}{v:Value}(he:∀x,enc x=[sV x])(himm:∀(b:Nat) o,m b=some o->w.heap[b]? = some o)(h:IRel m (.lst 1 (xs.map enc)) v):
  (∃a cap,v=.slice a 0 cap/\xs=[])\/∃bk o c,v=.slice (some ⟨bk,o,none⟩) xs.length c/\xs.length<=c/\bk<w.heap.size/\∀(j:Nat) x,xs[j]? = some x->w.cell? ⟨bk,o+j,none⟩=some (.string ⟨x.toArray⟩):=by
 generalize hr:xs.map enc=rows at h
 cases h with
 |nil k a cap=>exact .inl ⟨a,cap,rfl,by simpa using hr⟩
 | @lst _ _ a n cap arr T fr f hm hs hn hcap hbd hk hf h=>
  subst hr
  have hl:xs.length=n:=by simpa using hn
  subst hl
  obtain⟨bk,o,sp⟩:=a
  simp only at hs hm hf
  subst hs
  have hh:=himm _ _ hm
  refine .inr ⟨bk,o,cap,rfl,hcap,lt_of_some hh,fun j x hx=>?_⟩
  have hj:j<xs.length:=(aw8.1 hx).1
  have h1:=h j 0 (enc x) (sV x) (by rw[at9,hx];rfl) (by rw[he];rfl)
  have h2:=hf j (by simpa using hj)
  have h3:f (j*1+0)=.string ⟨x.toArray⟩:=VRel.of_con (m:=m) (β:=⟨fun _=>none,fun _ _=>False⟩) (.imm h1)
  simp only[Nat.mul_one,az9] at h3
  simp only[World.cell?,hh]
  rw[h2,h3];rfl
theorem pure_join{gl:Gl}{P:Program}{f:FuncId}{xs:List (List UInt8)}{sep:List UInt8}{enc:List UInt8->List V}(he:∀x,enc x=[sV x])(hN:xs.length<=140737488355328)(hl:(Lib.join xs sep).length<=140737488355328)
  (h0:∀(a:Option Addr) (c:Nat) (w:World),Calls P f #[.slice a 0 c,.string ⟨sep.toArray⟩] w fun e w'=>e=.returned (.string ⟨#[]⟩)/\w'=w)
  (h:∀(bk o c:Nat) (w:World),(∀(j:Nat) x,(xs.map fun x=>(⟨x.toArray⟩:ByteArray))[j]? = some x->w.cell? ⟨bk,o+j,none⟩=some (.string x))->bk<w.heap.size->(xs.map fun x=>(⟨x.toArray⟩:ByteArray)).length<=140737488355328->(xs.map fun x=>(⟨x.toArray⟩:ByteArray)).length<=c->
   (Lib.join ((xs.map fun x=>(⟨x.toArray⟩:ByteArray)).map (·.data.toList)) (⟨sep.toArray⟩:ByteArray).data.toList).length<=140737488355328->
   Calls P f #[.slice (some ⟨bk,o,none⟩) (xs.map fun x=>(⟨x.toArray⟩:ByteArray)).length c,.string ⟨sep.toArray⟩] w fun e w'=>e=.returned (.string ⟨(Lib.join ((xs.map fun x=>(⟨x.toArray⟩:ByteArray)).map (·.data.toList)) (⟨sep.toArray⟩:ByteArray).data.toList).toArray⟩)/\Below w.heap.size w w'):
  PureG gl P f [V.lst 1 (xs.map enc),sV sep] (sV (Lib.join xs sep)):=by
 intro m w vs himm _ hargs
 obtain⟨v,u,rfl⟩:=two_of' (vs:=vs) hargs.len.symm
 have hv:=hargs.at' 0 _ _ rfl rfl
 have hu:u=.string ⟨sep.toArray⟩:=by have:=hargs.at' 1 _ _ rfl rfl;cases this;rfl
 subst hu
 have hm:(xs.map fun x=>(⟨x.toArray⟩:ByteArray)).map (·.data.toList)=xs:=by
  rw[ax8];conv=>rhs;rw[<-List.map_id xs]
  apply br8;intro x _;simp
 rcases irel_strs he himm hv with ⟨a,cap,rfl,rfl⟩|⟨bk,o,c,rfl,hc,hb,hcells⟩
 ·refine(h0 a cap w).mono ?_
  rintro e w' ⟨rfl,rfl⟩
  exact⟨_,m,rfl,.con _,grew_below himm (Below.refl _ _) trivial⟩
 ·have:=h bk o c w (fun j x hx=>by
   rw[at9] at hx
   cases hj:xs[j]? with
   |none=>rw[hj] at hx;cases hx
   |some y=>rw[hj] at hx;cases hx;exact hcells j y hj) hb (by simpa using hN) (by simpa using hc) (by rw[hm];simpa using hl)
  rw[hm] at this
  rw[bb8] at this
  refine this.mono ?_
  rintro e w' ⟨rfl,hbl⟩
  exact⟨_,m,rfl,.con _,grew_below himm hbl trivial⟩
end Go.Pv
namespace Go.Pv
open Go
section
variable{K:Ctx}{Q:Post}{S:St}
variable{ops:Array Oper}{rest:List Oper}{ty:TypeId}{pos:String}{after:Array Edge}{g:Option (Nat×Bool)}
theorem aops_mcallv_atH{d nx:Nat}{f:FuncId}{fx:Operand}{first captured:List V}{args:Array Operand}{at':Array TypeId}{avs':List V}{k k':Nat}{hp hp':Heap}{dc:V}(res:List Nat)(hnx:S.nx=nx)(hres:∀i,i∈res->hget S.hp i=.res)
  (dv:V) (avs:List V) (σ τ:Nat->Nat) (u:Heap) (hf:fnOk K.P f=true)
  (hw:Wants ops S ⟨some d,.call ⟨.value fx,args,at'⟩,ty,pos,after,g⟩ true) (hN:Nat.blt d K.N=true) (hfx:evl K S fx=.fn (.func f) first captured) (ha:first++args.toList.map (evl K S)++captured=avs)
  (hsub:Subs (Ren k σ) avs' avs) (hhp:HpSub (Ren k σ) k σ S.hp hp) (hc:MutG K.gl K.P f avs' k hp dc k' hp')
  (hto:toB k k' nx nx σ τ (fun i=>res.any fun j=>Nat.beq i j)=true) (hτ:injB k' τ=true) (hkk:Nat.ble k k'=true) (hpins:(res.all fun i=>Nat.ble K.pins i)=true)
  (hdv:Sub (To k' τ) dv dc) (hu:HpTo (To k' τ) τ hp' k' 0 u)
  (kk:AOps K ops rest Q ⟨(d,dv)::S.env,u++S.hp,S.nx⟩):AOps K ops (⟨some d,.call ⟨.value fx,args,at'⟩,ty,pos,after,g⟩::rest) Q S:=by
 subst hnx
 have hfree:∀i,(res.any fun j=>Nat.beq i j)=true->i∈res:=by
  intro i hi
  obtain⟨j,hj,e⟩:=bt9.1 hi
  rw[bw8 e];exact hj
 exact aops_mcalls σ τ S.nx u (fun i=>res.any fun j=>Nat.beq i j) hw rfl hN (mcallv_run hf hfx ha) hsub (HpSub.get hhp) hc
  (fun i hi=>hres i (hfree i hi)) hto hτ (bx8 (by omega)) hkk
  (fun i hi=>ar9 (al8.1 hpins i (hfree i hi))) hdv hu kk
end
theorem arr_cell{α:Type}{n i:Nat}{f:Nat->α}{c:α->V}{cs:List V}(hc:cs=(List.range n).map (fun j=>c (f j)))(hi:i<n):cs[i]? = some (c (f i)):=by
 subst hc
 simp[hi]
end Go.Pv
namespace Go.Pv
def escT:List UInt8->List UInt8
 |[]=>[]
 |c::l=>if c=34\/c=92 then 92::c::escT l else c::escT l
def quoteT(s:List UInt8):List UInt8:=[34]++escT s++[34]
end Go.Pv
namespace Go.Proofs.YtppfkkkifdbnaaaGreatDoor
open Go Go.Pv
set_option maxRecDepth 100000
theorem mixed:Tryz.prog.follows .mixedOrders=true:=by kernel_rfl
structure TTest where
 Kind:Int
 Name:(List UInt8)
 Texts:(List (List UInt8))
 Op:Int
 N:Int
 Kids:(List KRow)
structure TPolicyRule where
 Name:(List UInt8)
 About:(List UInt8)
 When:TTest
 Level:Int
structure TWaiver where
 Rule:(List UInt8)
 Subject:(List UInt8)
 From:Int
 To:Int
 Owner:(List UInt8)
 Level:Int
 deriving DecidableEq
structure TPolicy where
 Rules:(List TPolicyRule)
 Waivers:(List TWaiver)
structure Tpolicy_uses where
 name:Bool
 texts:Bool
 number:Bool
 kids:Int
 deriving DecidableEq
structure Tpolicy_token where
 kind:Int
 text:(List UInt8)
 at_:Int
 deriving DecidableEq
structure Tpolicy_reader where
 s:(List UInt8)
 end_:Int
 now:Tpolicy_token
 at_:Int
 bad:Int
 deriving DecidableEq
def tab0:Nat->Int:=fun i=>([1,10,100,1000,10000,100000,1000000,10000000,100000000,1000000000,10000000000,100000000000,1000000000000,10000000000000,100000000000000,1000000000000000,10000000000000000,100000000000000000,1000000000000000000,10000000000000000000]:List Int).getD i 0
def gl:Gl:=[(0,[V.con (.int .u64 (tab0 0)),V.con (.int .u64 (tab0 1)),V.con (.int .u64 (tab0 2)),V.con (.int .u64 (tab0 3)),V.con (.int .u64 (tab0 4)),V.con (.int .u64 (tab0 5)),V.con (.int .u64 (tab0 6)),V.con (.int .u64 (tab0 7)),V.con (.int .u64 (tab0 8)),V.con (.int .u64 (tab0 9)),V.con (.int .u64 (tab0 10)),V.con (.int .u64 (tab0 11)),V.con (.int .u64 (tab0 12)),V.con (.int .u64 (tab0 13)),V.con (.int .u64 (tab0 14)),V.con (.int .u64 (tab0 15)),V.con (.int .u64 (tab0 16)),V.con (.int .u64 (tab0 17)),V.con (.int .u64 (tab0 18)),V.con (.int .u64 (tab0 19))])]
def encI_u8(x:Int):List V:=[(V.con (.int .u8 x))]
theorem imms_encI_u8(x:Int):Imms (encI_u8 x):=(.cons (Imm.con _) .nil)
theorem one_encI_u8(x:Int):(encI_u8 x).all oneV=true:=rfl
instance:EI encI_u8:=⟨imms_encI_u8,one_encI_u8⟩
def encS(x:(List UInt8)):List V:=[(sV x)]
theorem imms_encS(x:(List UInt8)):Imms (encS x):=(.cons (Imm.con _) .nil)
theorem one_encS(x:(List UInt8)):(encS x).all oneV=true:=rfl
instance:EI encS:=⟨imms_encS,one_encS⟩
def encTTest(x:TTest):List V:=[(iV x.Kind),(sV x.Name),(V.lst 1 (x.Texts.map encS)),(iV x.Op),(iV x.N),(V.lst 6 (x.Kids.map KRow.row))]
theorem imms_encTTest(x:TTest):Imms (encTTest x):=(.cons (Imm.con _) (.cons (Imm.con _) (.cons (Imm.lst _ _) (.cons (Imm.con _) (.cons (Imm.con _) (.cons (Imm.lst _ _) .nil))))))
theorem one_encTTest(x:TTest):(encTTest x).all oneV=true:=rfl
instance:EI encTTest:=⟨imms_encTTest,one_encTTest⟩
@[simp] theorem len_encTTest(x:TTest):(encTTest x).length=6:=rfl
def encTPolicyRule(x:TPolicyRule):List V:=[(sV x.Name),(sV x.About),(iV x.When.Kind),(sV x.When.Name),(V.lst 1 (x.When.Texts.map encS)),(iV x.When.Op),(iV x.When.N),(V.lst 6 (x.When.Kids.map KRow.row)),(iV x.Level)]
theorem imms_encTPolicyRule(x:TPolicyRule):Imms (encTPolicyRule x):=(.cons (Imm.con _) (.cons (Imm.con _) (.cons (Imm.con _) (.cons (Imm.con _) (.cons (Imm.lst _ _) (.cons (Imm.con _) (.cons (Imm.con _) (.cons (Imm.lst _ _) (.cons (Imm.con _) .nil)))))))))
theorem one_encTPolicyRule(x:TPolicyRule):(encTPolicyRule x).all oneV=true:=rfl
instance:EI encTPolicyRule:=⟨imms_encTPolicyRule,one_encTPolicyRule⟩
@[simp] theorem len_encTPolicyRule(x:TPolicyRule):(encTPolicyRule x).length=9:=rfl
def encTWaiver(x:TWaiver):List V:=[(sV x.Rule),(sV x.Subject),(iV x.From),(iV x.To),(sV x.Owner),(iV x.Level)]
theorem imms_encTWaiver(x:TWaiver):Imms (encTWaiver x):=(.cons (Imm.con _) (.cons (Imm.con _) (.cons (Imm.con _) (.cons (Imm.con _) (.cons (Imm.con _) (.cons (Imm.con _) .nil))))))
theorem one_encTWaiver(x:TWaiver):(encTWaiver x).all oneV=true:=rfl
instance:EI encTWaiver:=⟨imms_encTWaiver,one_encTWaiver⟩
@[simp] theorem len_encTWaiver(x:TWaiver):(encTWaiver x).length=6:=rfl
def encTPolicy(x:TPolicy):List V:=[(V.lst 9 (x.Rules.map encTPolicyRule)),(V.lst 6 (x.Waivers.map encTWaiver))]
theorem imms_encTPolicy(x:TPolicy):Imms (encTPolicy x):=(.cons (Imm.lst _ _) (.cons (Imm.lst _ _) .nil))
theorem one_encTPolicy(x:TPolicy):(encTPolicy x).all oneV=true:=rfl
instance:EI encTPolicy:=⟨imms_encTPolicy,one_encTPolicy⟩
@[simp] theorem len_encTPolicy(x:TPolicy):(encTPolicy x).length=2:=rfl
def encTpolicy_reader(x:Tpolicy_reader):List V:=[(sV x.s),(iV x.end_),(iV x.now.kind),(sV x.now.text),(iV x.now.at_),(iV x.at_),(iV x.bad)]
theorem imms_encTpolicy_reader(x:Tpolicy_reader):Imms (encTpolicy_reader x):=(.cons (Imm.con _) (.cons (Imm.con _) (.cons (Imm.con _) (.cons (Imm.con _) (.cons (Imm.con _) (.cons (Imm.con _) (.cons (Imm.con _) .nil)))))))
theorem one_encTpolicy_reader(x:Tpolicy_reader):(encTpolicy_reader x).all oneV=true:=rfl
instance:EI encTpolicy_reader:=⟨imms_encTpolicy_reader,one_encTpolicy_reader⟩
@[simp] theorem len_encTpolicy_reader(x:Tpolicy_reader):(encTpolicy_reader x).length=7:=rfl
def encTpolicy_uses(x:Tpolicy_uses):List V:=[(bV x.name),(bV x.texts),(bV x.number),(iV x.kids)]
theorem imms_encTpolicy_uses(x:Tpolicy_uses):Imms (encTpolicy_uses x):=(.cons (Imm.con _) (.cons (Imm.con _) (.cons (Imm.con _) (.cons (Imm.con _) .nil))))
theorem one_encTpolicy_uses(x:Tpolicy_uses):(encTpolicy_uses x).all oneV=true:=rfl
instance:EI encTpolicy_uses:=⟨imms_encTpolicy_uses,one_encTpolicy_uses⟩
@[simp] theorem len_encTpolicy_uses(x:Tpolicy_uses):(encTpolicy_uses x).length=4:=rfl
theorem eqp9{d:Nat}:EqOk Tryz.prog (d+1) 9 1 false (fun l=>∃n,l=[.string n]):=eqOk_str (show Tryz.prog.underlying 9=some (.string) by kernel_rfl) (show tyC Tryz.prog 9=true by kernel_rfl)
theorem eqp3{d:Nat}:EqOk Tryz.prog (d+1) 3 1 false (fun l=>∃n,l=[.int .i64 n]):=eqOk_int (show Tryz.prog.underlying 3=some (.int .i64) by kernel_rfl) (show tyC Tryz.prog 3=true by kernel_rfl)
def cv52(x:TWaiver):List Value:=[str x.Rule]++([str x.Subject]++([.int .i64 x.From]++([.int .i64 x.To]++([str x.Owner]++([.int .i64 x.Level]++[])))))
theorem inj_cv52(x y:TWaiver)(h:cv52 x=cv52 y):x=y:=by
 obtain⟨h0,h⟩:=ad9 h rfl
 obtain⟨h1,h⟩:=ad9 h rfl
 obtain⟨h2,h⟩:=ad9 h rfl
 obtain⟨h3,h⟩:=ad9 h rfl
 obtain⟨h4,h⟩:=ad9 h rfl
 obtain⟨h5,h⟩:=ad9 h rfl
 obtain⟨a0,a1,a2,a3,a4,a5⟩:=x
 obtain⟨b0,b1,b2,b3,b4,b5⟩:=y
 obtain rfl:a0=b0:=inj_str _ _ (ad8 h0).1
 obtain rfl:a1=b1:=inj_str _ _ (ad8 h1).1
 obtain rfl:a2=b2:=inj_int _ _ (ad8 h2).1
 obtain rfl:a3=b3:=inj_int _ _ (ad8 h3).1
 obtain rfl:a4=b4:=inj_str _ _ (ad8 h4).1
 obtain rfl:a5=b5:=inj_int _ _ (ad8 h5).1
 rfl
theorem eqp52 {d:Nat}:EqOk Tryz.prog (d+2) 52 6 true (fun l=>∃x:TWaiver,l=cv52 x):=(eqOk_struct (d:=d+1) (fs:=[(Field.mk "Rule" 9 0 false "" "" 0),(Field.mk "Subject" 9 1 false "" "" 16),(Field.mk "From" 3 2 false "" "" 32),(Field.mk "To" 3 3 false "" "" 40),(Field.mk "Owner" 9 4 false "" "" 48),(Field.mk "Level" 3 5 false "" "" 64)]) (by kernel_rfl) (by kernel_rfl) (by kernel_rfl) (by kernel_rfl) (eqF_cons eqp9 (by simp) rfl (by simp) (eqF_cons eqp9 (by simp) rfl (by simp) (eqF_cons eqp3 (by simp) rfl (by simp) (eqF_cons eqp3 (by simp) rfl (by simp) (eqF_cons eqp9 (by simp) rfl (by simp) (eqF_cons eqp3 (by simp) rfl (by simp) eqF_nil))))))).weaken (fun l ⟨x,hx⟩=>by subst hx;exact⟨_,_,rfl,⟨_,rfl⟩,⟨_,_,rfl,⟨_,rfl⟩,⟨_,_,rfl,⟨_,rfl⟩,⟨_,_,rfl,⟨_,rfl⟩,⟨_,_,rfl,⟨_,rfl⟩,⟨_,_,rfl,⟨_,rfl⟩,rfl⟩⟩⟩⟩⟩⟩)
theorem eqk52:EqOk Tryz.prog 10000 52 6 true (fun l=>∃x:TWaiver,l=cv52 x):=eqp52 (d:=9998)
def encM9_4(p:(List UInt8)×Bool):Value×V:=(str p.1,(bV p.2))
abbrev encM9_4_val(v:Bool):V:=(bV v)
theorem encM9_4_puts(xs:List ((List UInt8)×Bool))(k:(List UInt8))(v:Bool):Puts (str k) (encM9_4_val v) (xs.map encM9_4) ((mput xs k v).map encM9_4):=puts_map (kv:=fun k=>str k) (ev:=encM9_4_val) inj_str xs k v
theorem encM9_4_look(xs:List ((List UInt8)×Bool))(k:(List UInt8)):Look (str k) (xs.map encM9_4) ((mget xs k).map encM9_4_val):=look_map (kv:=fun k=>str k) (ev:=encM9_4_val) inj_str xs k
instance:EM encM9_4:=⟨fun _=>(Imm.con _)⟩
theorem encM9_4_good{xs:List ((List UInt8)×Bool)}:∀p,p∈xs.map encM9_4->isStr p.1:=by
 intro p hp
 obtain⟨x,_,rfl⟩:=ax9.1 hp
 exact⟨_,rfl⟩
theorem tIsSl22:tySlice Tryz.prog 22=true:=by kernel_rfl
theorem tIsSl23:tySlice Tryz.prog 23=true:=by kernel_rfl
theorem tSl22:tySl Tryz.prog 22 9=true:=by kernel_rfl
theorem tA44:tyA Tryz.prog 44 9=true:=by kernel_rfl
theorem tZ44:zeroCells Tryz.prog 44=some [.string ⟨#[]⟩,.string ⟨#[]⟩,.int .i64 0,.string ⟨#[]⟩,.slice none 0 0,.int .i64 0,.int .i64 0,.slice none 0 0,.int .i64 0]:=by kernel_rfl
theorem tC9:tyC Tryz.prog 9=true:=by kernel_rfl
theorem tStr9:tyStr Tryz.prog 9=true:=by kernel_rfl
theorem tMap81:tyMap Tryz.prog 81 9 4=true:=by kernel_rfl
theorem tKey9:KeyT Tryz.prog 9 isStr:=keyT_str (by kernel_rfl)
theorem tZo4:(Tryz.prog.info? 4).bind (·.zero)=some (.bool false):=by kernel_rfl
theorem tA42:tyA Tryz.prog 42 6=true:=by kernel_rfl
theorem tIsSl40:tySlice Tryz.prog 40=true:=by kernel_rfl
theorem tSl40:tySl Tryz.prog 40 6=true:=by kernel_rfl
theorem tZ42:zeroCells Tryz.prog 42=some [.int .i64 0,.string ⟨#[]⟩,.slice none 0 0,.int .i64 0,.int .i64 0,.slice none 0 0]:=by kernel_rfl
theorem tZ150:zeroCells Tryz.prog 150=some [.bool false,.bool false,.bool false,.int .i64 0,.bool false,.bool false,.bool false,.int .i64 0,.bool false,.bool false,.bool false,.int .i64 0,.bool false,.bool false,.bool false,.int .i64 0,.bool false,.bool false,.bool false,.int .i64 0,.bool false,.bool false,.bool false,.int .i64 0,.bool false,.bool false,.bool false,.int .i64 0,.bool false,.bool false,.bool false,.int .i64 0,.bool false,.bool false,.bool false,.int .i64 0]:=by kernel_rfl
theorem tZ149:zeroCells Tryz.prog 149=some [.bool false,.bool false,.bool false,.int .i64 0]:=by kernel_rfl
theorem tArr150:tyArr Tryz.prog 150 9 4=true:=by kernel_rfl
theorem tAA150:tyArrA Tryz.prog 150 9 4 149=true:=by kernel_rfl
theorem tIsSl39:tySlice Tryz.prog 39=true:=by kernel_rfl
theorem tSl39:tySl Tryz.prog 39 1=true:=by kernel_rfl
theorem tA52:tyA Tryz.prog 52 6=true:=by kernel_rfl
theorem tZ52:zeroCells Tryz.prog 52=some [.string ⟨#[]⟩,.string ⟨#[]⟩,.int .i64 0,.int .i64 0,.string ⟨#[]⟩,.int .i64 0]:=by kernel_rfl
theorem fOk63:fnOk Tryz.prog 63=true:=by kernel_rfl
theorem fOk9:fnOk Tryz.prog 9=true:=by kernel_rfl
theorem tZ38:zeroCells Tryz.prog 38=some [.pointer none,.slice none 0 0]:=by kernel_rfl
theorem tEl39:tyEl Tryz.prog 39 9 1 16=true:=by kernel_rfl
theorem tZ9:zeroCells Tryz.prog 9=some [.string ⟨#[]⟩]:=by kernel_rfl
theorem fOk37:fnOk Tryz.prog 37=true:=by kernel_rfl
theorem tZ86:zeroCells Tryz.prog 86=some [.string ⟨#[]⟩,.string ⟨#[]⟩,.string ⟨#[]⟩,.string ⟨#[]⟩,.string ⟨#[]⟩,.string ⟨#[]⟩]:=by kernel_rfl
theorem tArr86:tyArr Tryz.prog 86 6 1=true:=by kernel_rfl
theorem tAC86:tyArrC Tryz.prog 86 6 9=true:=by kernel_rfl
theorem fOk10:fnOk Tryz.prog 10=true:=by kernel_rfl
theorem fOk15:fnOk Tryz.prog 15=true:=by kernel_rfl
theorem fOk16:fnOk Tryz.prog 16=true:=by kernel_rfl
theorem tZ198:zeroCells Tryz.prog 198=some [.string ⟨#[]⟩,.string ⟨#[]⟩,.string ⟨#[]⟩,.string ⟨#[]⟩,.string ⟨#[]⟩,.string ⟨#[]⟩,.string ⟨#[]⟩,.string ⟨#[]⟩,.string ⟨#[]⟩,.string ⟨#[]⟩,.string ⟨#[]⟩,.string ⟨#[]⟩,.string ⟨#[]⟩,.string ⟨#[]⟩,.string ⟨#[]⟩,.string ⟨#[]⟩,.string ⟨#[]⟩,.string ⟨#[]⟩,.string ⟨#[]⟩,.string ⟨#[]⟩]:=by kernel_rfl
theorem tArr198:tyArr Tryz.prog 198 20 1=true:=by kernel_rfl
theorem tZ94:zeroCells Tryz.prog 94=some [.string ⟨#[]⟩,.string ⟨#[]⟩,.string ⟨#[]⟩,.string ⟨#[]⟩,.string ⟨#[]⟩]:=by kernel_rfl
theorem tArr94:tyArr Tryz.prog 94 5 1=true:=by kernel_rfl
theorem tAC94:tyArrC Tryz.prog 94 5 9=true:=by kernel_rfl
theorem tEl36:tyEl Tryz.prog 36 5 1 1=true:=by kernel_rfl
theorem tZ5:zeroCells Tryz.prog 5=some [.int .u8 0]:=by kernel_rfl
theorem tIsSl36:tySlice Tryz.prog 36=true:=by kernel_rfl
theorem tBy36:tyBytes Tryz.prog 36=true:=by kernel_rfl
theorem fOk48:fnOk Tryz.prog 48=true:=by kernel_rfl
theorem fOk50:fnOk Tryz.prog 50=true:=by kernel_rfl
theorem fOk26:fnOk Tryz.prog 26=true:=by kernel_rfl
theorem fOk22:fnOk Tryz.prog 22=true:=by kernel_rfl
theorem fOk23:fnOk Tryz.prog 23=true:=by kernel_rfl
theorem fOk52:fnOk Tryz.prog 52=true:=by kernel_rfl
theorem fOk53:fnOk Tryz.prog 53=true:=by kernel_rfl
theorem fOk54:fnOk Tryz.prog 54=true:=by kernel_rfl
theorem fOk56:fnOk Tryz.prog 56=true:=by kernel_rfl
theorem fOk132:fnOk Tryz.prog 132=true:=by kernel_rfl
theorem tS39:tyS Tryz.prog 39 1=true:=by kernel_rfl
theorem fOk57:fnOk Tryz.prog 57=true:=by kernel_rfl
theorem fOk113:fnOk Tryz.prog 113=true:=by kernel_rfl
theorem fOk84:fnOk Tryz.prog 84=true:=by kernel_rfl
theorem tEl40:tyEl Tryz.prog 40 42 6 88=true:=by kernel_rfl
theorem fOk83:fnOk Tryz.prog 83=true:=by kernel_rfl
theorem fOk81:fnOk Tryz.prog 81=true:=by kernel_rfl
theorem fOk82:fnOk Tryz.prog 82=true:=by kernel_rfl
theorem fOk55:fnOk Tryz.prog 55=true:=by kernel_rfl
theorem fOk24:fnOk Tryz.prog 24=true:=by kernel_rfl
theorem tEl22:tyEl Tryz.prog 22 44 9 128=true:=by kernel_rfl
theorem fOk25:fnOk Tryz.prog 25=true:=by kernel_rfl
theorem tEl23:tyEl Tryz.prog 23 52 6 72=true:=by kernel_rfl
theorem tEqG52:Tryz.prog.eqGuardType Tryz.prog.depth 52=false:=by kernel_rfl
def tt:TT:=[(3,[.C,.S 1]),(4,[.C,.Fn]),(5,[.Fn]),(6,[.Fn]),(7,[.Fn]),(8,[.Fn]),(9,[.C,.Str,.Fn,.S 1]),(11,[.Fn]),(12,[.Fn]),(13,[.Fn]),(14,[.Fn]),(17,[.Fn]),(18,[.Fn]),(19,[.Fn]),(20,[.Fn]),(22,[.C,.Sn,.Sl 9,.S 1]),(23,[.C,.Sn,.Sl 6,.S 1]),(25,[.S 2,.A 2,.F 0 0,.F 1 1,.Z 2 [.slice none 0 0,.slice none 0 0],.Pl [(0,1),(1,1)]]),(26,[.C,.S 1]),(27,[.Fn]),(28,[.Fn]),(29,[.Fn]),(30,[.Fn]),(31,[.Fn]),(32,[.Fn]),(34,[.Fn]),(35,[.Fn]),(36,[.Fn,.El 5 1 1,.Sn]),(39,[.C,.Sn,.Sl 1,.El 9 1 16,.S 1]),(40,[.C,.Sn,.Sl 6,.S 1]),(41,[.Fn]),(42,[.A 6,.S 6,.F 5 5,.Z 6 [.int .i64 0,.string ⟨#[]⟩,.slice none 0 0,.int .i64 0,.int .i64 0,.slice none 0 0],.F 0 0,.F 1 1,.F 2 2,.F 3 3,.F 4 4,.Fn,.Pl [(0,1),(1,1),(2,1),(3,1),(4,1),(5,1)]]),(43,[.Fn]),(44,[.A 9,.Z 9 [.string ⟨#[]⟩,.string ⟨#[]⟩,.int .i64 0,.string ⟨#[]⟩,.slice none 0 0,.int .i64 0,.int .i64 0,.slice none 0 0,.int .i64 0],.S 9,.F 0 0,.F 1 1,.F 2 2,.F 3 8,.Fn,.Pl [(0,1),(1,1),(2,6),(8,1)]]),(49,[.Fn]),(51,[.Fn]),(52,[.A 6,.Z 6 [.string ⟨#[]⟩,.string ⟨#[]⟩,.int .i64 0,.int .i64 0,.string ⟨#[]⟩,.int .i64 0],.S 6,.F 1 1,.F 0 0,.F 2 2,.F 3 3,.F 4 4,.F 5 5,.Pl [(0,1),(1,1),(2,1),(3,1),(4,1),(5,1)]]),(58,[.Fn]),(59,[.Fn]),(60,[.Fn]),(61,[.Fn]),(62,[.Fn]),(64,[.Fn]),(65,[.Fn]),(69,[.S 1,.C]),(71,[.Fn,.Z 3 [.int .i64 0,.string ⟨#[]⟩,.int .i64 0],.Pl [(0,1),(1,1),(2,1)],.S 3,.F 0 0,.F 1 1,.F 2 2,.A 3]),(72,[.Fn]),(73,[.Fn,.Z 7 [.string ⟨#[]⟩,.int .i64 0,.int .i64 0,.string ⟨#[]⟩,.int .i64 0,.int .i64 0,.int .i64 0],.Pl [(0,1),(1,1),(2,3),(5,1),(6,1)],.S 7,.F 1 1,.F 0 0,.F 4 6,.F 3 5,.F 2 2]),(74,[.Fn]),(75,[.Fn]),(79,[.Fn]),(80,[.Fn]),(85,[.Fn]),(86,[.Z 6 [.string ⟨#[]⟩,.string ⟨#[]⟩,.string ⟨#[]⟩,.string ⟨#[]⟩,.string ⟨#[]⟩,.string ⟨#[]⟩],.S 6,.A 6,.Fn]),(87,[.Fn]),(88,[.Fn]),(89,[.Fn]),(90,[.Fn]),(91,[.Fn]),(92,[.Fn]),(94,[.Fn]),(103,[.Fn]),(104,[.Fn]),(105,[.Fn]),(106,[.Fn]),(107,[.Fn]),(114,[.Fn]),(130,[.Fn]),(146,[.Fn]),(149,[.Z 4 [.bool false,.bool false,.bool false,.int .i64 0],.Pl [(0,1),(1,1),(2,1),(3,1)],.S 4,.F 0 0,.F 1 1,.F 2 2,.F 3 3]),(150,[.Z 36 [.bool false,.bool false,.bool false,.int .i64 0,.bool false,.bool false,.bool false,.int .i64 0,.bool false,.bool false,.bool false,.int .i64 0,.bool false,.bool false,.bool false,.int .i64 0,.bool false,.bool false,.bool false,.int .i64 0,.bool false,.bool false,.bool false,.int .i64 0,.bool false,.bool false,.bool false,.int .i64 0,.bool false,.bool false,.bool false,.int .i64 0,.bool false,.bool false,.bool false,.int .i64 0],.S 36,.A 36]),(198,[.Z 20 [.string ⟨#[]⟩,.string ⟨#[]⟩,.string ⟨#[]⟩,.string ⟨#[]⟩,.string ⟨#[]⟩,.string ⟨#[]⟩,.string ⟨#[]⟩,.string ⟨#[]⟩,.string ⟨#[]⟩,.string ⟨#[]⟩,.string ⟨#[]⟩,.string ⟨#[]⟩,.string ⟨#[]⟩,.string ⟨#[]⟩,.string ⟨#[]⟩,.string ⟨#[]⟩,.string ⟨#[]⟩,.string ⟨#[]⟩,.string ⟨#[]⟩,.string ⟨#[]⟩],.S 20,.Arr 20 1])]
theorem ok:TTok Tryz.prog tt:=tt_b (by kernel_rfl) (by kernel_rfl) trivial
instance {N:Nat} {w:World} {m:Mem} {o:Nat->Prop} {p:Nat} {l:Nat->Option (Option (Nat×Cap))} {g:Gl} {h:GlOk g m} {q:Option Nat}:TC ⟨Tryz.prog,N,w,m,o,p,l,g,h,q⟩ tt:=⟨ok⟩
end Go.Proofs.YtppfkkkifdbnaaaGreatDoor
