/- Part of the proof. -/
import Derived.Test.YtppfkkkifdbnaaaGreatDoorVT9RH
import Derived.Test.YtppfkkkifdbnaaaGreatDoorVQDOn
set_option linter.unusedSimpArgs false
set_option linter.unusedVariables false
namespace Go.Proofs.YtppfkkkifdbnaaaGreatDoor
open Go Go.Pv
set_option maxRecDepth 100000
def tailB(w:List UInt8):List (List UInt8)->List UInt8
 |[]=>[]
 |x::l=>w++(x++tailB w l)
def joinB(w:List UInt8):List (List UInt8)->List UInt8
 |[]=>[]
 |x::l=>x++tailB w l
theorem joinTail_eq(w:List UInt8):∀l:List (List UInt8),Lib.joinTail w l=tailB w l
 |[]=>rfl
 |x::l=>by
  have ih:=joinTail_eq w l
  simp only[Lib.joinTail,tailB,bd8,List.flatten_cons] at ih ⊢
  rw[ih,bo8]
theorem join_eq(w:List UInt8):∀l:List (List UInt8),Lib.join l w=joinB w l
 |[]=>rfl
 |x::l=>by rw[Lib.join_cons,joinTail_eq,joinB]
def innB(kd a:Int)(l:List UInt8):List UInt8:=bif parB kd a then [40]++(l++[41]) else l
noncomputable section
mutual
def Tr.pr:Tr->List UInt8
 | .mk a b c d e ks=>
  if a=1 then wT else if a=2 then b++([32,105,115,32]++joinB [44,32] (c.map quoteT)) else if a=3 then b++([32,98,101,103,105,110,115,32]++joinB [44,32] (c.map quoteT)) else if a=4 then [104,97,115,32]++b
  else if a=5 then b++([32]++(opW d.toNat++([32]++Lib.itoa e))) else if a=6 then [110,111,116,32]++joinB [] (Tr.prs 6 ks) else if a=7 then joinB [32,97,110,100,32] (Tr.prs 7 ks) else joinB [32,111,114,32] (Tr.prs 8 ks)
def Tr.prs(kd:Int):List Tr->List (List UInt8)
 |[]=>[]
 |t::r=>innB kd t.kd t.pr::Tr.prs kd r
end
end
theorem Tr.prs_map(kd:Int):∀ks:List Tr,Tr.prs kd ks=ks.map fun t=>innB kd t.kd t.pr
 |[]=>by simp[Tr.prs]
 |t::r=>by simp[Tr.prs,Tr.prs_map kd r]
theorem Tr.pr_mk{a:Int}{b:List UInt8}{c:List (List UInt8)}{d e:Int}{ks:List Tr}:Tr.pr (.mk a b c d e ks) =
  if a=1 then wT else if a=2 then b++([32,105,115,32]++joinB [44,32] (c.map quoteT)) else if a=3 then b++([32,98,101,103,105,110,115,32]++joinB [44,32] (c.map quoteT)) else if a=4 then [104,97,115,32]++b
  else if a=5 then b++([32]++(opW d.toNat++([32]++Lib.itoa e))) else if a=6 then [110,111,116,32]++joinB [] (Tr.prs 6 ks) else if a=7 then joinB [32,97,110,100,32] (Tr.prs 7 ks) else joinB [32,111,114,32] (Tr.prs 8 ks):=by rw[Tr.pr]
theorem escT_len:∀s:List UInt8,(escT s).length<=2*s.length
 |[]=>by simp[escT]
 |c::s=>by
  have:=escT_len s
  rw[escT]
  split<;>simp<;>omega
theorem quoteT_len{s:List UInt8}(h:valB s=true):(quoteT s).length<=2002:=by
 unfold valB at h
 rw[al9,decide_eq_true_eq] at h
 have:=escT_len s
 simp[quoteT];omega
theorem tailB_len{w:List UInt8}{n:Nat}:∀{l:List (List UInt8)},(∀x,x∈l->x.length<=n)->(tailB w l).length<=l.length*(w.length+n)
 |[],_=>by simp[tailB]
 |x::l,h=>by
  have:=tailB_len (w:=w) (l:=l) fun y hy=>h y (by simp[hy])
  have hx:=h x (by simp)
  simp only[tailB,ba8,bl8,ay8]
  omega
theorem joinB_len{w:List UInt8}{n:Nat}{l:List (List UInt8)}(h:∀x,x∈l->x.length<=n):(joinB w l).length<=l.length*(w.length+n):=by
 cases l with
 |nil=>simp[joinB]
 |cons x l=>
  have:=tailB_len (w:=w) (l:=l) fun y hy=>h y (by simp[hy])
  have hx:=h x (by simp)
  simp only[joinB,ba8,bl8,ay8]
  omega
theorem vals_len{c:List (List UInt8)}(h:∀s,s∈c->valB s=true)(hl:c.length<=50):(joinB [44,32] (c.map quoteT)).length<=101000:=by
 have:=joinB_len (w:=[44,32]) (n:=2002) (l:=c.map quoteT) fun x hx=>by
  obtain⟨s,hs,rfl⟩:=ax9.1 hx
  exact quoteT_len (h s hs)
 simp only[bb8,bl8,bh8] at this
 have:c.length*2004<=50*2004:=ay9 _ hl
 omega
theorem itoa_len{n:Int}(h : -1000000000000<=n/\n<=1000000000000):(Lib.itoa n).length<=14:=by
 unfold Lib.itoa
 split
 ·have:=digits_len (u:=n.natAbs) (by omega)
  simp;omega
 ·have:=digits_len (u:=n.toNat) (by omega)
  omega
theorem innB_len{kd a:Int}{l:List UInt8}:(innB kd a l).length<=l.length+2:=by
 unfold innB
 cases parB kd a<;>simp
theorem opW_len(n:Nat):(opW n).length<=2:=by
 unfold opW
 split<;>simp
theorem prs_len{w:List UInt8}(hw:w.length<=5){kd:Int}:∀{ks:List Tr},(∀t,t∈ks->t.pr.length+10<=120000*t.cnt)->(tailB w (Tr.prs kd ks)).length<=120000*Tr.cnts ks
 |[],_=>by simp[Tr.prs,tailB]
 |t::r,h=>by
  have ih:=prs_len hw (kd:=kd) (ks:=r) fun u hu=>h u (by simp[hu])
  have ht:=h t (by simp)
  have hi:=innB_len (kd:=kd) (a:=t.kd) (l:=t.pr)
  rw[Tr.prs,tailB,Tr.cnts]
  simp only[ba8]
  omega
theorem prj_len{w:List UInt8}(hw:w.length<=5){kd:Int}{ks:List Tr}(h:∀t,t∈ks->t.pr.length+10<=120000*t.cnt):(joinB w (Tr.prs kd ks)).length<=120000*Tr.cnts ks:=by
 have:=prs_len hw (kd:=kd) h
 cases ks with
 |nil=>simp[Tr.prs,joinB]
 |cons t r=>
  rw[Tr.prs,tailB] at this
  rw[Tr.prs,joinB]
  simp only[ba8] at this ⊢
  omega
theorem pr_len{t:Tr}(h:Gd t):t.pr.length+10<=120000*t.cnt:=by
 induction h with
 |tru=>rw[Tr.pr_mk,Tr.cnt,if_pos rfl];simp[wT];omega
 | @is a nm v l ha hn hv hl=>
  have h1:=vals_len hv hl
  have h2:=(name_okS hn).2
  rcases ha with rfl|rfl
  ·rw[Tr.pr_mk,Tr.cnt,if_neg (by decide),if_pos rfl]
   simp only[ba8,bl8,bh8] at h1 ⊢;omega
  ·rw[Tr.pr_mk,Tr.cnt,if_neg (by decide),if_neg (by decide),if_pos rfl]
   simp only[ba8,bl8,bh8] at h1 ⊢;omega
 | @has nm hn=>
  have h2:=(name_okS hn).2
  rw[Tr.pr_mk,Tr.cnt,if_neg (by decide),if_neg (by decide),if_neg (by decide),if_pos rfl]
  simp only[ba8,bl8,bh8];omega
 | @num nm op n hn ho hN=>
  have h2:=(name_okS hn).2
  have h3:=itoa_len hN
  have h4:=opW_len op.toNat
  rw[Tr.pr_mk,Tr.cnt,if_neg (by decide),if_neg (by decide),if_neg (by decide),if_neg (by decide),if_pos rfl]
  simp only[ba8,bl8,bh8];omega
 | @not t h ih=>
  have:=prj_len (w:=[]) (by simp) (kd:=6) (ks:=[t]) (by simpa using ih)
  rw[Tr.pr_mk,Tr.cnt,if_neg (by decide),if_neg (by decide),if_neg (by decide),if_neg (by decide),if_neg (by decide),if_pos rfl]
  simp only[ba8,bl8,bh8];omega
 | @row a c d ks ha h ih=>
  rcases ha with rfl|rfl
  ·have:=prj_len (w:=[32,97,110,100,32]) (by simp) (kd:=7) ih
   rw[Tr.pr_mk,Tr.cnt,if_neg (by decide),if_neg (by decide),if_neg (by decide),if_neg (by decide),if_neg (by decide),if_neg (by decide),if_pos rfl]
   omega
  ·have:=prj_len (w:=[32,111,114,32]) (by simp) (kd:=8) ih
   rw[Tr.pr_mk,Tr.cnt,if_neg (by decide),if_neg (by decide),if_neg (by decide),if_neg (by decide),if_neg (by decide),if_neg (by decide),if_neg (by decide)]
   omega
end Go.Proofs.YtppfkkkifdbnaaaGreatDoor
namespace Go.Proofs.YtppfkkkifdbnaaaGreatDoor
open Go Go.Pv
set_option maxRecDepth 100000
theorem M13_eq(F:Nat){s:List UInt8}(h:valB s=true):M13 F s=some (quoteT s):=by
 have h1:s.length<=1000:=by
  unfold valB at h
  rw[al9,decide_eq_true_eq] at h
  exact h.1
 unfold M13
 rw[if_pos (by omega)]
theorem M20_L(F:Nat)(s:List UInt8)(hs:s.length<=1000)(k:List Int->Option (List UInt8)):∀(m n:Nat) (l:List Int),n+m=s.length->l.length<=2*n+1->
  M20_L1 F s k m (n:Int) l=k (l++(escT (s.drop n)).map fun c=>(c.toNat:Int))
 |0,n,l,h,_=>by
  rw[M20_L1,ai9 (by omega)]
  simp[escT]
 |m+1,n,l,h,hl=>by
  have hn:n<s.length:=by omega
  have ih:=fun l' hl'=>M20_L F s hs k m (n+1) l' (by omega) hl'
  have e1:=u8n (c:=s[n]) (k:=34) (by omega)
  have e2:=u8n (c:=s[n]) (k:=92) (by omega)
  rw[show((34:Nat):Int)=34 from rfl] at e1
  rw[show((92:Nat):Int)=92 from rfl] at e2
  rw[M20_L1,jn_def,idx_nat hn,bn9,e1,show((n:Int)+1)=((n+1:Nat):Int) from rfl,bj8 hn,escT]
  by_cases h34:s[n]=34
  ·rw[if_pos (by rw[h34];rfl),if_pos (by simp;omega),bn9,if_pos (by simp;omega)]
   dsimp only
   rw[ih _ (by simp;omega),if_pos (.inl h34),h34]
   simp
  ·rw[if_neg (by simpa using h34),bn9,jn_def,e2]
   by_cases h92:s[n]=92
   ·rw[if_pos (by rw[h92];rfl),if_pos (by simp;omega)]
    dsimp only
    rw[bn9,if_pos (by simp;omega),ih _ (by simp;omega),if_pos (.inr h92),h92]
    simp
   ·rw[if_neg (by simpa using h92)]
    dsimp only
    rw[bn9,if_pos (by simp;omega),ih _ (by simp;omega),if_neg (by simp[h34,h92])]
    simp
theorem map_back(l:List UInt8):(l.map fun c=>(c.toNat:Int)).map (fun n=>UInt8.ofNat n.toNat)=l:=by
 rw[ax8]
 conv=>rhs;rw[<-List.map_id l]
 exact br8 fun c _=>by simp
theorem M20_eq(F:Nat){s:List UInt8}(h:valB s=true):M20 F s=some (quoteT s):=by
 have h1:s.length<=1000:=by
  unfold valB at h
  rw[al9,decide_eq_true_eq] at h
  exact h.1
 have hl:=M20_L F s h1 (fun(l3:List Int)=>if (l3++([34]:List Int)).length*1<=140737488355328 then some ((l3++([34]:List Int)).map fun n=>UInt8.ofNat n.toNat) else none) s.length 0 [34] (br9 _) (by simp)
 have he:=escT_len s
 unfold M20
 rw[jn_def,if_pos (by omega),bb9]
 rw[show((0:Nat):Int)=0 from rfl] at hl
 rw[hl,bi8,if_pos (by simp;omega),ca8,ca8,map_back]
 rfl
theorem M34_L(F:Nat)(k:List (List UInt8)->Option (List UInt8)):∀(c l:List (List UInt8)),(∀s,s∈c->valB s=true)->l.length+c.length<=1000->M34_L1 F k c l=k (l++c.map quoteT)
 |[],l,_,_=>by simp[M34_L1]
 |x::c,l,h,hl=>by
  rw[M34_L1,M13_eq F (h x (by simp)),bn9,if_pos (by simp at hl ⊢;omega),M34_L F k c _ (fun s hs=>h s (by simp[hs])) (by simp at hl ⊢;omega)]
  simp
theorem M34_eq(F:Nat){c:List (List UInt8)}(h:∀s,s∈c->valB s=true)(hl:c.length<=50):M34 F c=some (joinB [44,32] (c.map quoteT)):=by
 have:=vals_len h hl
 unfold M34
 rw[jn_def,M34_L F _ c [] h (by simp;omega),ab9]
 unfold M37
 rw[join_eq,if_pos ⟨by simp;omega,by omega⟩,bn9]
theorem M14_eq'(F:Nat){n:Int}(h : -1000000000000<=n/\n<=1000000000000):M14 F n=some (Lib.itoa n):=by
 unfold M14;rw[if_pos (by omega)]
theorem M36_eq{R:TTest->Option (List UInt8)}{F:Nat}{kd:Int}(hk:kd=6\/kd=7\/kd=8){x:TTest}{y:List UInt8}(h:R x=some y)(hy:y.length<=9000000):M36 R F kd x=some (innB kd x.Kind y):=by
 have c1:([40]:List UInt8).length+y.length<=9223372036854775807:=by simp;omega
 have c2:(([40]:List UInt8)++y).length+([41]:List UInt8).length<=9223372036854775807:=by simp;omega
 unfold M36 innB parB
 rw[h,bn9]
 simp only[if_pos c1,if_pos c2,bo8]
 rcases hk with rfl|rfl|rfl
 ·by_cases h7:x.Kind=7
  ·rw[h7];rfl
  ·by_cases h8:x.Kind=8
   ·rw[h8];rfl
   ·rw[beq_false_of_ne h7,beq_false_of_ne h8];rfl
 ·by_cases h7:x.Kind=7
  ·rw[h7];rfl
  ·by_cases h8:x.Kind=8
   ·rw[h8];rfl
   ·rw[beq_false_of_ne h7,beq_false_of_ne h8];rfl
 ·by_cases h7:x.Kind=7
  ·rw[h7];rfl
  ·by_cases h8:x.Kind=8
   ·rw[h8];rfl
   ·rw[beq_false_of_ne h7,beq_false_of_ne h8];rfl
theorem M44_eq{R:TTest->Option (List UInt8)}{F:Nat}{kd:Int}(hk:kd=6\/kd=7\/kd=8){x:TTest}{y:List UInt8}(h:R x=some y)(hy:y.length<=9000000):M44 R F x kd=some (innB kd x.Kind y):=by
 have c1:([40]:List UInt8).length+y.length<=9223372036854775807:=by simp;omega
 have c2:(([40]:List UInt8)++y).length+([41]:List UInt8).length<=9223372036854775807:=by simp;omega
 unfold M44 innB parB
 rw[h,bn9]
 simp only[if_pos c1,if_pos c2,bo8]
 rcases hk with rfl|rfl|rfl
 ·by_cases h7:x.Kind=7
  ·rw[h7];rfl
  ·by_cases h8:x.Kind=8
   ·rw[h8];rfl
   ·rw[beq_false_of_ne h7,beq_false_of_ne h8];rfl
 ·by_cases h7:x.Kind=7
  ·rw[h7];rfl
  ·by_cases h8:x.Kind=8
   ·rw[h8];rfl
   ·rw[beq_false_of_ne h7,beq_false_of_ne h8];rfl
 ·by_cases h7:x.Kind=7
  ·rw[h7];rfl
  ·by_cases h8:x.Kind=8
   ·rw[h8];rfl
   ·rw[beq_false_of_ne h7,beq_false_of_ne h8];rfl
theorem kd_toT(t:Tr):t.toT.Kind=t.kd:=by cases t;rw[Tr.toT];rfl
theorem M12_L(F:Nat){R:TTest->Option (List UInt8)}{x:TTest}(hk:x.Kind=6\/x.Kind=7\/x.Kind=8)(k:List (List UInt8)->Option (List UInt8)):
  ∀(ks:List Tr) (l:List (List UInt8)),(∀t,t∈ks->R t.toT=some t.pr/\t.pr.length<=9000000)->l.length+ks.length<=1000->M12_L1 R F x k (Tr.toKs ks) l=k (l++Tr.prs x.Kind ks)
 |[],l,_,_=>by simp[Tr.toKs,Tr.prs,M12_L1]
 |t::r,l,h,hl=>by
  obtain⟨h1,h2⟩:=h t (by simp)
  rw[Tr.toKs_map,bd8,M12_L1,Tr.dec,bn9,M36_eq hk h1 h2,bn9,if_pos (by simp at hl ⊢;omega),<-Tr.toKs_map,M12_L F hk k r _ (fun u hu=>h u (by simp[hu])) (by simp at hl ⊢;omega),Tr.prs,kd_toT]
  simp
theorem opW_at{op:Int}(h:1<=op/\op<=5)(f:Nat->List UInt8)(hf:f=arrOf [] [([]:List UInt8),([60]:List UInt8),([60,61]:List UInt8),([61]:List UInt8),([62,61]:List UInt8),([62]:List UInt8)]):f op.toNat=opW op.toNat:=by
 subst hf
 have:op=1\/op=2\/op=3\/op=4\/op=5:=by omega
 rcases this with rfl|rfl|rfl|rfl|rfl<;>rfl
theorem M12_tr{t:Tr}(h:Gd t):t.cnt<=60->∀F,t.dep<=F->M12 F t.toT=some t.pr:=by
 induction h with
 |tru=>
  intro hc F hF
  obtain⟨F,rfl⟩:∃G,F=G+1:=⟨F - 1,by rw[Tr.dep] at hF;omega⟩
  show M12_B (M12 F) F _=_
  rw[Tr.toT,Tr.pr_mk]
  rfl
 | @is a nm v l ha hn hv hl=>
  intro hc F hF
  obtain⟨F,rfl⟩:∃G,F=G+1:=⟨F - 1,by rw[Tr.dep] at hF;omega⟩
  have h1:=vals_len hv hl
  have h2:=(name_okS hn).2
  show M12_B (M12 F) F _=_
  rw[Tr.toT,Tr.pr_mk,M12_B,jn_def]
  dsimp only
  rw[M34_eq F hv hl]
  rcases ha with rfl|rfl
  ·rw[if_pos (by decide),if_pos (by simp;omega),bn9,if_pos (by simp at h1 ⊢;omega),if_neg (by decide),if_pos rfl,bo8]
  ·rw[if_neg (by decide),if_pos (by decide),if_pos (by simp;omega),bn9,if_pos (by simp at h1 ⊢;omega),if_neg (by decide),if_neg (by decide),if_pos rfl,bo8]
 | @has nm hn=>
  intro hc F hF
  obtain⟨F,rfl⟩:∃G,F=G+1:=⟨F - 1,by rw[Tr.dep] at hF;omega⟩
  have h2:=(name_okS hn).2
  show M12_B (M12 F) F _=_
  rw[Tr.toT,Tr.pr_mk,M12_B,jn_def]
  dsimp only
  rw[if_neg (by decide),if_neg (by decide),if_pos (by decide),if_pos (by simp;omega),if_neg (by decide),if_neg (by decide),if_neg (by decide),if_pos rfl]
 | @num nm op n hn ho hN=>
  intro hc F hF
  obtain⟨F,rfl⟩:∃G,F=G+1:=⟨F - 1,by rw[Tr.dep] at hF;omega⟩
  have h2:=(name_okS hn).2
  have h3:=itoa_len hN
  have h4:=opW_len op.toNat
  show M12_B (M12 F) F _=_
  rw[Tr.toT,Tr.pr_mk,M12_B,jn_def]
  dsimp only
  rw[if_neg (by decide),if_neg (by decide),if_neg (by decide),if_pos (by decide),if_pos (by simp;omega),M35,bn9,if_pos (by omega),opW_at ho _ rfl,if_pos (by simp;omega),if_pos (by simp;omega),M14_eq' F hN,bn9,if_pos (by simp;omega)]
  rw[if_neg (by decide),if_neg (by decide),if_neg (by decide),if_neg (by decide),if_pos rfl]
  simp
 | @not t h ih=>
  intro hc F hF
  rw[Tr.cnt] at hc
  rw[Tr.dep] at hF
  have hct:t.cnt<=60:=by have:=Tr.cnt_mem (ks:=[t]) (t:=t) (by simp);omega
  have hd:=dep_kid (ks:=[t]) (t:=t) (by simp)
  obtain⟨F,rfl⟩:∃G,F=G+1:=⟨F - 1,by omega⟩
  have ih:=ih hct F (by omega)
  have hl:=pr_len h
  have hi:=innB_len (kd:=6) (a:=t.kd) (l:=t.pr)
  show M12_B (M12 F) F _=_
  rw[Tr.toT,Tr.pr_mk,M12_B,jn_def]
  dsimp only
  rw[if_neg (by decide),if_neg (by decide),if_neg (by decide),if_neg (by decide),if_pos (by decide),show(0:Int)=((0:Nat):Int) from rfl,idx_toKs (ks:=[t]) (n:=0) (by simp),bn9]
  rw[show([t][0])=t from rfl,Tr.dec,bn9,M36_eq (.inl rfl) ih (by omega),bn9,kd_toT,if_pos (by simp;omega)]
  rw[if_neg (by decide),if_neg (by decide),if_neg (by decide),if_neg (by decide),if_neg (by decide),if_pos rfl,Tr.prs,Tr.prs,joinB,tailB,aa8]
 | @row a c d ks ha h ih=>
  intro hc F hF
  rw[Tr.cnt] at hc
  rw[Tr.dep] at hF
  have hl:=len_cnts (c::d::ks)
  have hct:∀u,u∈c::d::ks->u.cnt<=60:=fun u hu=>by have:=Tr.cnt_mem hu;omega
  have hdt:∀u,u∈c::d::ks->u.dep<=Tr.deps (c::d::ks):=fun u hu=>dep_kid hu
  obtain⟨F,rfl⟩:∃G,F=G+1:=⟨F - 1,by omega⟩
  have ih:=fun u hu=>ih u hu (hct u hu) F (by have:=hdt u hu;omega)
  have hkid:∀u,u∈c::d::ks->M12 F u.toT=some u.pr/\u.pr.length<=9000000:=fun u hu=>⟨ih u hu,by have:=pr_len (h u hu);have:=hct u hu;omega⟩
  have hjl:=fun(w:List UInt8) (hw:w.length<=5) kd=>prj_len hw (kd:=kd) (ks:=c::d::ks) fun u hu=>pr_len (h u hu)
  show M12_B (M12 F) F _=_
  rw[Tr.toT,Tr.pr_mk,M12_B,jn_def]
  dsimp only
  rcases ha with rfl|rfl
  ·have hj:=hjl [32,97,110,100,32] (by simp) 7
   rw[if_neg (by decide),if_neg (by decide),if_neg (by decide),if_neg (by decide),if_neg (by decide),jn_def,if_pos (by decide),jn_def,if_neg (by decide)]
   refine aa9 (if_pos (by decide)) ?_
   dsimp only
   rw[jn_def]
   rw[M12_L F (x:=⟨7,[],[],0,0,Tr.toKs (c::d::ks)⟩) (.inr (.inl rfl)) _ _ [] hkid (by simp at hl ⊢;omega),ab9]
   unfold M37
   dsimp only
   rw[join_eq,if_pos ⟨by rw[Tr.prs_map,bb8];omega,by omega⟩,bn9]
   rw[if_neg (by decide),if_neg (by decide),if_neg (by decide),if_neg (by decide),if_neg (by decide),if_neg (by decide),if_pos rfl]
  ·have hj:=hjl [32,111,114,32] (by simp) 8
   rw[if_neg (by decide),if_neg (by decide),if_neg (by decide),if_neg (by decide),if_neg (by decide),jn_def,if_neg (by decide),jn_def,if_pos (by decide)]
   refine aa9 (if_pos (by decide)) ?_
   dsimp only
   rw[jn_def]
   rw[M12_L F (x:=⟨8,[],[],0,0,Tr.toKs (c::d::ks)⟩) (.inr (.inr rfl)) _ _ [] hkid (by simp at hl ⊢;omega),ab9]
   unfold M37
   dsimp only
   rw[join_eq,if_pos ⟨by rw[Tr.prs_map,bb8];omega,by omega⟩,bn9]
   rw[if_neg (by decide),if_neg (by decide),if_neg (by decide),if_neg (by decide),if_neg (by decide),if_neg (by decide),if_neg (by decide)]
theorem M19_T(F:Nat)(x:TTest)(hv:∀s,s∈x.Texts->valB s=true)(hl:x.Texts.length<=50)(k:List UInt8->Option (List UInt8)):
  ∀(m n:Nat) (acc:List UInt8),0<n->n+m=x.Texts.length->acc.length+m*2004<=1000000->M19_L2 F x k m (n:Int) acc=k (acc++tailB [44,32] ((x.Texts.drop n).map quoteT))
 |0,n,acc,_,h,_=>by
  rw[M19_L2,ai9 (by omega)]
  simp[tailB]
 |m+1,n,acc,h0,h,ha=>by
  have hn:n<x.Texts.length:=by omega
  have hq:=quoteT_len (hv _ (av8 hn))
  rw[M19_L2,jn_def,if_pos (decide_eq_true (by omega)),if_pos (by simp;omega)]
  dsimp only
  rw[idx_nat hn,bn9,M20_eq F (hv _ (av8 hn)),bn9,if_pos (by simp;omega),show((n:Int)+1)=((n+1:Nat):Int) from rfl,
   M19_T F x hv hl k m (n+1) _ (by omega) (by omega) (by simp;omega),bj8 hn,bd8,tailB]
  simp
theorem M19_T0(F:Nat)(x:TTest)(hv:∀s,s∈x.Texts->valB s=true)(hl:x.Texts.length<=50)(k:List UInt8->Option (List UInt8)){acc:List UInt8}(ha:acc.length<=100):
  M19_L2 F x k x.Texts.length 0 acc=k (acc++joinB [44,32] (x.Texts.map quoteT)):=by
 cases hx:x.Texts with
 |nil=>simp[M19_L2,joinB]
 |cons v l=>
  have hn:0<x.Texts.length:=by rw[hx];simp
  have hv0:valB v=true:=hv v (by rw[hx];simp)
  have hq:=quoteT_len hv0
  have hT:=M19_T F x hv hl k l.length 1 (acc++quoteT v) (by omega) (by rw[hx];simp;omega) (by rw[hx] at hl;simp at hl ⊢;omega)
  rw[hx] at hT
  rw[bl8,M19_L2,jn_def,if_neg (by decide)]
  dsimp only
  rw[hx,show idx (v::l) 0=some v from rfl,bn9,M20_eq F hv0,bn9,if_pos (by omega),show((0:Int)+1)=((1:Nat):Int) from rfl,hT]
  simp[joinB]
theorem M19_K(F:Nat){R:TTest->Option (List UInt8)}(x:TTest)(hk:x.Kind=7\/x.Kind=8){ks:List Tr}(hks:x.Kids=Tr.toKs ks)(hl:ks.length<=60)(h:∀t,t∈ks->R t.toT=some t.pr/\t.pr.length<=9000000)(w:List UInt8)(hw:w.length<=5)(k:List UInt8->Option (List UInt8)):
  ∀(m n:Nat) (acc:List UInt8),0<n->n+m=ks.length->acc.length+m*9000010<=1000000000->M19_L1 R F x w k m (n:Int) acc=k (acc++tailB w (Tr.prs x.Kind (ks.drop n)))
 |0,n,acc,_,h,_=>by
  rw[M19_L1,ai9 (by omega)]
  simp[tailB,Tr.prs]
 |m+1,n,acc,h0,hm,ha=>by
  have hn:n<ks.length:=by omega
  obtain⟨g1,g2⟩:=h ks[n] (av8 hn)
  have hi:=innB_len (kd:=x.Kind) (a:=ks[n].kd) (l:=ks[n].pr)
  rw[M19_L1,jn_def,if_pos (decide_eq_true (by omega)),if_pos (by omega)]
  dsimp only
  rw[hks,idx_toKs hn,bn9,Tr.dec,bn9,M44_eq (.inr hk) g1 g2,bn9,kd_toT,if_pos (by simp;omega),show((n:Int)+1)=((n+1:Nat):Int) from rfl,
   M19_K F x hk hks hl h w hw k m (n+1) _ (by omega) (by omega) (by simp;omega),bj8 hn,Tr.prs,tailB]
  simp
theorem M19_K0(F:Nat){R:TTest->Option (List UInt8)}(x:TTest)(hk:x.Kind=7\/x.Kind=8){t:Tr}{r:List Tr}(hks:x.Kids=Tr.toKs (t::r))(hl:(t::r).length<=60)(h:∀u,u∈t::r->R u.toT=some u.pr/\u.pr.length<=9000000)(w:List UInt8)(hw:w.length<=5)(k:List UInt8->Option (List UInt8)):
  M19_L1 R F x w k (t::r).length 0 []=k (joinB w (Tr.prs x.Kind (t::r))):=by
 obtain⟨g1,g2⟩:=h t (by simp)
 have hi:=innB_len (kd:=x.Kind) (a:=t.kd) (l:=t.pr)
 have hK:=M19_K F x hk hks hl h w hw k r.length 1 (innB x.Kind t.kd t.pr) (by omega) (by simp;omega) (by simp at hl;omega)
 have h0:=idx_toKs (ks:=t::r) (n:=0) (by simp)
 rw[show((0:Nat):Int)=0 from rfl] at h0
 rw[bl8,M19_L1,jn_def,if_neg (by decide)]
 dsimp only
 rw[hks,h0,bn9,show(t::r)[0]=t from rfl,Tr.dec,bn9,M44_eq (.inr hk) g1 g2,bn9,kd_toT,if_pos (by simp;omega),ab9,show((0:Int)+1)=((1:Nat):Int) from rfl,hK,Tr.prs,joinB]
 rfl
theorem M19_tr{t:Tr}(h:Gd t):t.cnt<=60->∀F,t.dep<=F->M19 F t.toT=some t.pr:=by
 induction h with
 |tru=>
  intro hc F hF
  obtain⟨F,rfl⟩:∃G,F=G+1:=⟨F - 1,by rw[Tr.dep] at hF;omega⟩
  show M19_B (M19 F) F _=_
  rw[Tr.toT,Tr.pr_mk]
  rfl
 | @is a nm v l ha hn hv hl=>
  intro hc F hF
  obtain⟨F,rfl⟩:∃G,F=G+1:=⟨F - 1,by rw[Tr.dep] at hF;omega⟩
  have h1:=vals_len hv hl
  have h2:=(name_okS hn).2
  show M19_B (M19 F) F _=_
  rw[Tr.toT,Tr.pr_mk,M19_B,jn_def]
  dsimp only
  rcases ha with rfl|rfl
  ·have hT:=M19_T0 F (TTest.mk 2 nm (v::l) 0 0 (Tr.toKs [])) hv hl (fun(s55:List UInt8)=>some s55) (acc:=nm++[32,105,115,32]) (by simp;omega)
   rw[if_neg (by decide),if_neg (by decide),if_neg (by decide),if_neg (by decide),jn_def,if_neg (by decide)]
   refine aa9 (if_neg (by decide)) ?_
   rw[if_pos (by simp;omega),jn_def,if_neg (by decide)]
   dsimp only
   rw[jn_def,if_pos (by omega),bb9]
   refine aa9 hT ?_
   rw[if_neg (by decide),if_pos rfl,bo8]
  ·have hT:=M19_T0 F (TTest.mk 3 nm (v::l) 0 0 (Tr.toKs [])) hv hl (fun(s55:List UInt8)=>some s55) (acc:=nm++[32,98,101,103,105,110,115,32]) (by simp;omega)
   rw[if_neg (by decide),if_neg (by decide),if_neg (by decide),if_neg (by decide),jn_def,if_neg (by decide)]
   refine aa9 (if_neg (by decide)) ?_
   rw[if_pos (by simp;omega),jn_def,if_pos (by decide),if_pos (by simp;omega)]
   dsimp only
   rw[jn_def,if_pos (by omega),bb9]
   refine aa9 hT ?_
   rw[if_neg (by decide),if_neg (by decide),if_pos rfl,bo8]
 | @has nm hn=>
  intro hc F hF
  obtain⟨F,rfl⟩:∃G,F=G+1:=⟨F - 1,by rw[Tr.dep] at hF;omega⟩
  have h2:=(name_okS hn).2
  show M19_B (M19 F) F _=_
  rw[Tr.toT,Tr.pr_mk,M19_B,jn_def]
  dsimp only
  rw[if_neg (by decide),if_pos (by decide),if_pos (by simp;omega),if_neg (by decide),if_neg (by decide),if_neg (by decide),if_pos rfl]
 | @num nm op n hn ho hN=>
  intro hc F hF
  obtain⟨F,rfl⟩:∃G,F=G+1:=⟨F - 1,by rw[Tr.dep] at hF;omega⟩
  have h2:=(name_okS hn).2
  have h3:=itoa_len hN
  have h4:=opW_len op.toNat
  show M19_B (M19 F) F _=_
  rw[Tr.toT,Tr.pr_mk,M19_B,jn_def]
  dsimp only
  rw[if_neg (by decide),if_neg (by decide),if_pos (by decide),if_pos (by simp;omega),M43,if_pos (by omega),bn9,opW_at ho _ rfl,if_pos (by simp;omega),if_pos (by simp;omega),M14_eq' F hN,bn9,if_pos (by simp;omega)]
  rw[if_neg (by decide),if_neg (by decide),if_neg (by decide),if_neg (by decide),if_pos rfl]
  simp
 | @not t h ih=>
  intro hc F hF
  rw[Tr.cnt] at hc
  rw[Tr.dep] at hF
  have hct:t.cnt<=60:=by have:=Tr.cnt_mem (ks:=[t]) (t:=t) (by simp);omega
  have hd:=dep_kid (ks:=[t]) (t:=t) (by simp)
  obtain⟨F,rfl⟩:∃G,F=G+1:=⟨F - 1,by omega⟩
  have ih:=ih hct F (by omega)
  have hl:=pr_len h
  have hi:=innB_len (kd:=6) (a:=t.kd) (l:=t.pr)
  show M19_B (M19 F) F _=_
  rw[Tr.toT,Tr.pr_mk,M19_B,jn_def]
  dsimp only
  rw[if_neg (by decide),if_neg (by decide),if_neg (by decide),if_pos (by decide),show(0:Int)=((0:Nat):Int) from rfl,idx_toKs (ks:=[t]) (n:=0) (by simp),bn9]
  rw[show([t][0])=t from rfl,Tr.dec,bn9,M44_eq (.inl rfl) ih (by omega),bn9,kd_toT,if_pos (by simp;omega)]
  rw[if_neg (by decide),if_neg (by decide),if_neg (by decide),if_neg (by decide),if_neg (by decide),if_pos rfl,Tr.prs,Tr.prs,joinB,tailB,aa8]
 | @row a c d ks ha h ih=>
  intro hc F hF
  rw[Tr.cnt] at hc
  rw[Tr.dep] at hF
  have hl:=len_cnts (c::d::ks)
  have hct:∀u,u∈c::d::ks->u.cnt<=60:=fun u hu=>by have:=Tr.cnt_mem hu;omega
  have hdt:∀u,u∈c::d::ks->u.dep<=Tr.deps (c::d::ks):=fun u hu=>dep_kid hu
  obtain⟨F,rfl⟩:∃G,F=G+1:=⟨F - 1,by omega⟩
  have ih:=fun u hu=>ih u hu (hct u hu) F (by have:=hdt u hu;omega)
  have hkid:∀u,u∈c::d::ks->M19 F u.toT=some u.pr/\u.pr.length<=9000000:=fun u hu=>⟨ih u hu,by have:=pr_len (h u hu);have:=hct u hu;omega⟩
  have hlen:(((Tr.toKs (c::d::ks)).length:Nat):Int)<=9223372036854775807:=by rw[Tr.toKs_len];omega
  show M19_B (M19 F) F _=_
  rw[Tr.toT,Tr.pr_mk,M19_B,jn_def]
  dsimp only
  rcases ha with rfl|rfl
  ·have hK:=M19_K0 F (TTest.mk 7 [] [] 0 0 (Tr.toKs (c::d::ks))) (.inl rfl) rfl (by omega) hkid [32,97,110,100,32] (by simp) (fun(s31:List UInt8)=>some s31)
   rw[if_neg (by decide),if_neg (by decide),if_neg (by decide),if_neg (by decide),jn_def,if_pos (by decide)]
   refine aa9 (if_pos (by decide)) ?_
   rw[jn_def,if_neg (by decide)]
   dsimp only
   rw[jn_def,if_pos hlen,bb9,Tr.toKs_len]
   refine aa9 hK ?_
   rw[if_neg (by decide),if_neg (by decide),if_neg (by decide),if_neg (by decide),if_neg (by decide),if_neg (by decide),if_pos rfl]
  ·have hK:=M19_K0 F (TTest.mk 8 [] [] 0 0 (Tr.toKs (c::d::ks))) (.inr rfl) rfl (by omega) hkid [32,111,114,32] (by simp) (fun(s31:List UInt8)=>some s31)
   rw[if_neg (by decide),if_neg (by decide),if_neg (by decide),if_neg (by decide),jn_def,if_neg (by decide)]
   refine aa9 (if_pos (by decide)) ?_
   rw[jn_def,if_pos (by decide)]
   dsimp only
   rw[jn_def,if_pos hlen,bb9,Tr.toKs_len]
   refine aa9 hK ?_
   rw[if_neg (by decide),if_neg (by decide),if_neg (by decide),if_neg (by decide),if_neg (by decide),if_neg (by decide),if_neg (by decide)]
def SepH(u:List UInt8):Prop:=∀c v,u=c::v->run c=false/\c≠61
theorem rds_bl{c:UInt8}{u:List UInt8}{ts:List Tok}(hc:blk c=true)(h:Rds u ts):Rds (c::u) ts:=by
 cases h with
 |nil hb=>exact .nil (by simp[hc,hb])
 | @run b r u ts hb hr hrr hu h=>exact .run (b:=c::b) (by simp[hc,hb]) hr hrr hu h
 | @txt b v u ts hb hv h=>exact .txt (b:=c::b) (by simp[hc,hb]) hv h
 | @sgn b g u ts hb hg hu h=>exact .sgn (b:=c::b) (by simp[hc,hb]) hg hu h
theorem rds_run{r u:List UInt8}{ts:List Tok}(hr:r≠[])(hrr:r.all run=true)(hu:SepH u)(h:Rds u ts):Rds (r++u) ((1,r)::ts):=.run (b:=[]) rfl hr hrr (fun c v e=>(hu c v e).1) h
theorem rds_txt{v u:List UInt8}{ts:List Tok}(hv:v.all valC=true)(h:Rds u ts):Rds (quoteT v++u) ((2,v)::ts):=.txt (b:=[]) rfl hv h
theorem rds_sgn{g u:List UInt8}{ts:List Tok}(hg:g∈signs)(hu:∀c v,u=c::v->c≠61)(h:Rds u ts):Rds (g++u) ((3,g)::ts):=.sgn (b:=[]) rfl hg hu h
theorem sep_bl{c:UInt8}{u:List UInt8}(h:blk c=true):SepH (c::u):=by
 intro d v e
 injection e with e1 e2
 subst e1
 simp only[blk,am9,beq_iff_eq] at h
 rcases h with rfl|rfl<;>decide
theorem rds_word{w u:List UInt8}{ts:List Tok}(hw:w≠[])(hr:w.all run=true)(h:Rds u ts):Rds (32::(w++(32::u))) ((1,w)::ts):=
 rds_bl rfl (rds_run hw hr (sep_bl rfl) (rds_bl rfl h))
theorem name_run{nm:List UInt8}(h:nameB nm=true):nm≠[]/\nm.all run=true:=by
 unfold nameB at h
 split at h
 ·cases h
 ·rename_i c r
  simp only[al9] at h
  have:run c=true:=by
   have:=h.1.2
   unfold lower at this
   unfold Proofs.YtppfkkkifdbnaaaGreatDoor.run
   rw[this];rfl
  exact⟨by simp,by rw[ae9,this,h.2];rfl⟩
theorem run_61{c:UInt8}(h:run c=true):c≠61:=by rintro rfl;revert h;decide
theorem all_head{r:List UInt8}(hr:r≠[])(h:r.all run=true):∃c v,r=c::v/\c≠61:=by
 obtain⟨c,v,rfl⟩:=List.exists_cons_of_ne_nil hr
 rw[ae9,al9] at h
 exact⟨c,v,rfl,run_61 h.1⟩
theorem itoa_run(n:Int):Lib.itoa n≠[]/\(Lib.itoa n).all run=true:=by
 have hd:∀u,(Lib.decDigits u).all run=true:=fun u=>al8.2 fun x hx=>by
  have:=decDigits_dig u x hx
  simp[run];omega
 unfold Lib.itoa
 split
 ·exact⟨by simp,by rw[ae9,hd];rfl⟩
 ·exact⟨decDigits_ne _,hd _⟩
theorem vals_tail{u:List UInt8}{ts:List Tok}(h:Rds u ts):∀l:List (List UInt8),(∀s,s∈l->valB s=true)->Rds (tailB [44,32] (l.map quoteT)++u) (tkL l++ts)
 |[],_=>h
 |v::l,hv=>by
  have ih:=vals_tail h l fun s hs=>hv s (by simp[hs])
  have:=rds_sgn (g:=[44]) (by decide) (fun c v e=>by injection e with e1 _;subst e1;decide) (rds_bl (c:=32) rfl (rds_txt (val_all (hv v (by simp))) ih))
  simpa[tailB,tkL] using this
theorem vals_rds{u:List UInt8}{ts:List Tok}(h:Rds u ts){v:List UInt8}{l:List (List UInt8)}(hv:∀s,s∈v::l->valB s=true):Rds (joinB [44,32] ((v::l).map quoteT)++u) (tkV (v::l)++ts):=by
 have:=rds_txt (val_all (hv v (by simp))) (vals_tail h l fun s hs=>hv s (by simp[hs]))
 simpa[joinB,tkV] using this
theorem innB_head{kd a:Int}{l:List UInt8}(h:∃c v,l=c::v/\c≠61):∃c v,innB kd a l=c::v/\c≠61:=by
 unfold innB
 cases parB kd a
 ·exact h
 ·exact⟨40,l++[41],rfl,by decide⟩
theorem joinB_head{w:List UInt8}{kd:Int}{t:Tr}{r:List Tr}(h:∃c v,t.pr=c::v/\c≠61):∃c v,joinB w (Tr.prs kd (t::r))=c::v/\c≠61:=by
 obtain⟨c,v,e,h1⟩:=innB_head (kd:=kd) (a:=t.kd) h
 exact⟨c,v++tailB w (Tr.prs kd r),by rw[Tr.prs,joinB,e];rfl,h1⟩
theorem pr_head{t:Tr}(h:Gd t):∃c v,t.pr=c::v/\c≠61:=by
 induction h with
 |tru=>exact⟨116,[114,117,101],by rw[Tr.pr_mk];rfl,by decide⟩
 | @is a nm v l ha hn hv hl=>
  obtain⟨c,r,e,h1⟩:=all_head (name_run hn).1 (name_run hn).2
  rcases ha with rfl|rfl
  ·exact⟨c,r++([32,105,115,32]++joinB [44,32] ((v::l).map quoteT)),by rw[Tr.pr_mk,if_neg (by decide),if_pos rfl,e];rfl,h1⟩
  ·exact⟨c,r++([32,98,101,103,105,110,115,32]++joinB [44,32] ((v::l).map quoteT)),by rw[Tr.pr_mk,if_neg (by decide),if_neg (by decide),if_pos rfl,e];rfl,h1⟩
 | @has nm hn=>exact⟨104,[97,115,32]++nm,by rw[Tr.pr_mk];rfl,by decide⟩
 | @num nm op n hn ho hN=>
  obtain⟨c,r,e,h1⟩:=all_head (name_run hn).1 (name_run hn).2
  exact⟨c,r++([32]++(opW op.toNat++([32]++Lib.itoa n))),by rw[Tr.pr_mk,if_neg (by decide),if_neg (by decide),if_neg (by decide),if_neg (by decide),if_pos rfl,e];rfl,h1⟩
 | @not t h ih=>exact⟨110,[111,116,32]++joinB [] (Tr.prs 6 [t]),by rw[Tr.pr_mk];rfl,by decide⟩
 | @row a c d ks ha h ih=>
  rcases ha with rfl|rfl
  ·rw[Tr.pr_mk,if_neg (by decide),if_neg (by decide),if_neg (by decide),if_neg (by decide),if_neg (by decide),if_neg (by decide),if_pos rfl]
   exact joinB_head (ih c (by simp))
  ·rw[Tr.pr_mk,if_neg (by decide),if_neg (by decide),if_neg (by decide),if_neg (by decide),if_neg (by decide),if_neg (by decide),if_neg (by decide)]
   exact joinB_head (ih c (by simp))
def RdsA(p:List UInt8)(l:List Tok):Prop:=∀u ts,SepH u->Rds u ts->Rds (p++u) (l++ts)
theorem rds_inn{kd:Int}{t:Tr}(hh:∃c v,t.pr=c::v/\c≠61)(h:RdsA t.pr t.tk):RdsA (innB kd t.kd t.pr) (inn kd t.kd t.tk):=by
 intro u ts hu hr
 unfold innB inn
 cases parB kd t.kd
 ·exact h u ts hu hr
 ·obtain⟨c,v,e,h1⟩:=hh
  have hc:Rds (41::u) ((3,[41])::ts):=rds_sgn (g:=[41]) (by decide) (fun c v e=>(hu c v e).2) hr
  have:=rds_sgn (g:=[40]) (by decide) (u:=t.pr++(41::u)) (fun c' v' e'=>by rw[e] at e';injection e' with e1 _;rw[<-e1];exact h1)
   (h (41::u) ((3,[41])::ts) (fun c v e=>by injection e with e1 _;subst e1;decide) hc)
  simpa using this
theorem rds_tail{w:List UInt8}(hw:w≠[])(hwr:w.all run=true){kd:Int}{u:List UInt8}{ts:List Tok}(hu:SepH u)(hr:Rds u ts):
  ∀ks:List Tr,(∀t,t∈ks->RdsA (innB kd t.kd t.pr) (inn kd t.kd t.tk))->SepH (tailB (32::(w++[32])) (Tr.prs kd ks)++u)/\Rds (tailB (32::(w++[32])) (Tr.prs kd ks)++u) (tailT w (Tr.tks kd ks)++ts)
 |[],_=>by
  rw[Tr.prs,Tr.tks]
  exact⟨hu,hr⟩
 |t::r,h=>by
  obtain⟨ih1,ih2⟩:=rds_tail hw hwr hu hr r fun t ht=>h t (by simp[ht])
  rw[Tr.prs,Tr.tks,tailB,tailT]
  refine⟨sep_bl rfl,?_⟩
  have:=rds_word hw hwr (h t (by simp) _ _ ih1 ih2)
  simpa using this
theorem rds_join{w:List UInt8}(hw:w≠[])(hwr:w.all run=true){kd:Int}{t:Tr}{r:List Tr}(h:∀u,u∈t::r->RdsA (innB kd u.kd u.pr) (inn kd u.kd u.tk)):
  RdsA (joinB (32::(w++[32])) (Tr.prs kd (t::r))) (joinT w (Tr.tks kd (t::r))):=by
 intro u ts hu hr
 obtain⟨h1,h2⟩:=rds_tail hw hwr hu hr r fun t ht=>h t (by simp[ht])
 have:=h t (by simp) _ _ h1 h2
 rw[Tr.prs,Tr.tks,joinB,joinT]
 simpa using this
theorem opW_sign{op:Int}(h:1<=op/\op<=5):opW op.toNat∈signs:=by
 have:op=1\/op=2\/op=3\/op=4\/op=5:=by omega
 rcases this with rfl|rfl|rfl|rfl|rfl<;>decide
theorem rds_pr{t:Tr}(h:Gd t):RdsA t.pr t.tk:=by
 induction h with
 |tru=>
  intro u ts hu hr
  rw[Tr.pr_mk,Tr.tk_mk,if_pos rfl,if_pos rfl]
  exact rds_run (by decide) (by decide) hu hr
 | @is a nm v l ha hn hv hl=>
  intro u ts hu hr
  have h1:=vals_rds hr hv
  obtain⟨g1,g2⟩:=name_run hn
  rcases ha with rfl|rfl
  ·have:=rds_run g1 g2 (sep_bl (c:=32) rfl) (rds_word (w:=wIs) (by decide) (by decide) h1)
   rw[Tr.pr_mk,Tr.tk_mk,if_neg (by decide),if_pos rfl,if_neg (by decide),if_pos rfl]
   simpa[wIs] using this
  ·have:=rds_run g1 g2 (sep_bl (c:=32) rfl) (rds_word (w:=wBegins) (by decide) (by decide) h1)
   rw[Tr.pr_mk,Tr.tk_mk,if_neg (by decide),if_neg (by decide),if_pos rfl,if_neg (by decide),if_neg (by decide),if_pos rfl]
   simpa[wBegins] using this
 | @has nm hn=>
  intro u ts hu hr
  obtain⟨g1,g2⟩:=name_run hn
  have:=rds_run (r:=wHas) (by decide) (by decide) (sep_bl (c:=32) rfl) (rds_bl (c:=32) rfl (rds_run g1 g2 hu hr))
  rw[Tr.pr_mk,Tr.tk_mk,if_neg (by decide),if_neg (by decide),if_neg (by decide),if_pos rfl,if_neg (by decide),if_neg (by decide),if_neg (by decide),if_pos rfl]
  simpa[wHas] using this
 | @num nm op n hn ho hN=>
  intro u ts hu hr
  obtain⟨g1,g2⟩:=name_run hn
  obtain⟨i1,i2⟩:=itoa_run n
  have:=rds_run g1 g2 (sep_bl (c:=32) rfl) (rds_bl (c:=32) rfl (rds_sgn (opW_sign ho) (fun c v e=>by injection e with e1 _;subst e1;decide) (rds_bl (c:=32) rfl (rds_run i1 i2 hu hr))))
  rw[Tr.pr_mk,Tr.tk_mk,if_neg (by decide),if_neg (by decide),if_neg (by decide),if_neg (by decide),if_pos rfl,if_neg (by decide),if_neg (by decide),if_neg (by decide),if_neg (by decide),if_pos rfl]
  simpa using this
 | @not t h ih=>
  intro u ts hu hr
  have:=rds_run (r:=wNot) (by decide) (by decide) (sep_bl (c:=32) rfl) (rds_bl (c:=32) rfl (rds_inn (kd:=6) (pr_head h) ih u ts hu hr))
  rw[Tr.pr_mk,Tr.tk_mk,if_neg (by decide),if_neg (by decide),if_neg (by decide),if_neg (by decide),if_neg (by decide),if_pos rfl,if_neg (by decide),if_neg (by decide),if_neg (by decide),if_neg (by decide),if_neg (by decide),if_pos rfl,Tr.prs,Tr.prs,Tr.tks,Tr.tks,joinB,joinT,tailB,tailT]
  simpa[wNot] using this
 | @row a c d ks ha h ih=>
  have hk:=fun kd u hu=>rds_inn (kd:=kd) (pr_head (h u hu)) (ih u hu)
  rcases ha with rfl|rfl
  ·rw[Tr.pr_mk,Tr.tk_mk,if_neg (by decide),if_neg (by decide),if_neg (by decide),if_neg (by decide),if_neg (by decide),if_neg (by decide),if_pos rfl,if_neg (by decide),if_neg (by decide),if_neg (by decide),if_neg (by decide),if_neg (by decide),if_neg (by decide),if_pos rfl]
   exact rds_join (w:=wAnd) (by decide) (by decide) (hk 7)
  ·rw[Tr.pr_mk,Tr.tk_mk,if_neg (by decide),if_neg (by decide),if_neg (by decide),if_neg (by decide),if_neg (by decide),if_neg (by decide),if_neg (by decide),if_neg (by decide),if_neg (by decide),if_neg (by decide),if_neg (by decide),if_neg (by decide),if_neg (by decide),if_neg (by decide)]
   exact rds_join (w:=wOr) (by decide) (by decide) (hk 8)
noncomputable def prRule(r:TPolicyRule):List UInt8:=((((((((([114,117,108,101,32]:List UInt8)++r.Name)++([32,97,98,111,117,116,32]:List UInt8))++r.About)++([32]:List UInt8))++lvW r.Level.toNat)++([32,119,104,101,110,32]:List UInt8))++(trE r.When).pr)++([10]:List UInt8))
def prWaiver(w:TWaiver):List UInt8:=((((((((((((([119,97,105,118,101,32]:List UInt8)++w.Rule)++([32,102,111,114,32]:List UInt8))++quoteT w.Subject)++([32,102,114,111,109,32]:List UInt8))++Lib.itoa w.From)++([32,116,111,32]:List UInt8))++Lib.itoa w.To)++([32,98,121,32]:List UInt8))++w.Owner)++([32,97,115,32]:List UInt8))++lvW w.Level.toNat)++([10]:List UInt8))
noncomputable def prRules:List TPolicyRule->List UInt8
 |[]=>[]
 |r::l=>prRule r++prRules l
def prWaivers:List TWaiver->List UInt8
 |[]=>[]
 |w::l=>prWaiver w++prWaivers l
theorem lvW_len(n:Nat):(lvW n).length<=4:=by
 unfold lvW
 split<;>simp
theorem lv_at{l:Int}(h:1<=l/\l<=4)(F:Nat):(∃ws,M11 F=some ws/\idx ws l=some (lvW l.toNat))/\M18 F l=some (lvW l.toNat):=by
 have:l=1\/l=2\/l=3\/l=4:=by omega
 rcases this with rfl|rfl|rfl|rfl<;>exact⟨⟨_,rfl,rfl⟩,rfl⟩
theorem rule_len{r:TPolicyRule}(h:GRule r):(prRule r).length<=7300000/\r.Name.length<=40/\r.About.length<=40/\(trE r.When).pr.length<=7200000:=by
 have h1:=(name_okS h.name).2
 have h2:=(name_okS h.about).2
 have h3:=lvW_len r.Level.toNat
 have h4:=pr_len h.gd
 have h5:=h.cnt
 refine⟨?_,h1,h2,by omega⟩
 unfold prRule
 simp only[ba8,bl8,bh8];omega
theorem waiver_len{w:TWaiver}(h:GWaiver w):(prWaiver w).length<=3000/\w.Rule.length<=40/\w.Owner.length<=40/\(quoteT w.Subject).length<=2002/\(Lib.itoa w.From).length<=14/\(Lib.itoa w.To).length<=14:=by
 have h1:=(name_okS h.rule).2
 have h2:=(name_okS h.owner).2
 have h3:=lvW_len w.Level.toNat
 have h4:=quoteT_len h.subj
 have h5:=itoa_len (n:=w.From) (by have:=h.from';omega)
 have h6:=itoa_len (n:=w.To) (by have:=h.to';omega)
 refine⟨?_,h1,h2,h4,h5,h6⟩
 unfold prWaiver
 simp only[ba8,bl8,bh8];omega
theorem M4_R(F:Nat)(hF:12<=F)(k:List UInt8->Option (List UInt8×Int)):∀(l:List TPolicyRule) (acc:List UInt8),(∀r,r∈l->GRule r)->acc.length+l.length*7300000<=10000000000->M4_L1 F k l acc=k (acc++prRules l)
 |[],acc,_,_=>by simp[M4_L1,prRules]
 |r::l,acc,h,hl=>by
  have hr:=h r (by simp)
  obtain⟨g0,g1,g2,g3⟩:=rule_len hr
  have g4:=lvW_len r.Level.toNat
  obtain⟨⟨ws,hw,hi⟩,_⟩:=lv_at hr.level F
  have h12:M12 F r.When=some (trE r.When).pr:=by
   have:=M12_tr hr.gd hr.cnt F (by have:=hr.dep;omega)
   rwa [<-hr.eq] at this
  rw[bl8] at hl
  have ih:=M4_R F hF k l (acc++prRule r) (fun u hu=>h u (by simp[hu])) (by rw[ba8];omega)
  rw[M4_L1,if_pos (by simp;omega),if_pos (by simp;omega),if_pos (by simp;omega),if_pos (by simp;omega),hw,bn9,hi,bn9,if_pos (by simp;omega),if_pos (by simp;omega),h12,bn9,if_pos (by simp;omega),if_pos (by simp;omega)]
  unfold M10
  rw[if_pos (by simp;omega),bn9]
  refine aa9 ih ?_
  rw[prRules,bo8]
theorem M4_W(F:Nat)(k:List UInt8->Option (List UInt8×Int)):∀(l:List TWaiver) (acc:List UInt8),(∀r,r∈l->GWaiver r)->acc.length+l.length*3000<=20000000000->M4_L2 F k l acc=k (acc++prWaivers l)
 |[],acc,_,_=>by simp[M4_L2,prWaivers]
 |w::l,acc,h,hl=>by
  have hr:=h w (by simp)
  obtain⟨g0,g1,g2,g3,g5,g6⟩:=waiver_len hr
  have g4:=lvW_len w.Level.toNat
  obtain⟨⟨ws,hw,hi⟩,_⟩:=lv_at hr.level F
  rw[bl8] at hl
  have ih:=M4_W F k l (acc++prWaiver w) (fun u hu=>h u (by simp[hu])) (by rw[ba8];omega)
  rw[M4_L2,if_pos (by simp;omega),if_pos (by simp;omega),M13_eq F hr.subj,bn9,if_pos (by simp;omega),if_pos (by simp;omega),M14_eq' F (by have:=hr.from';omega),bn9,if_pos (by simp;omega),if_pos (by simp;omega),M14_eq' F (by have:=hr.to';omega),bn9,if_pos (by simp;omega),if_pos (by simp;omega),if_pos (by simp;omega),if_pos (by simp;omega),hw,bn9,hi,bn9,if_pos (by simp;omega),if_pos (by simp;omega)]
  unfold M10
  rw[if_pos (by simp;omega),bn9]
  refine aa9 ih ?_
  rw[prWaivers,bo8]
theorem M5_R(F:Nat)(hF:12<=F)(p:TPolicy)(k:List UInt8->Option (List UInt8×Int))(h:∀r,r∈p.Rules->GRule r):∀(m n:Nat) (acc:List UInt8),n+m=p.Rules.length->acc.length+m*7300000<=10000000000->M5_L1 F p k m (n:Int) acc=k (acc++prRules (p.Rules.drop n))
 |0,n,acc,hn,_=>by
  rw[M5_L1,ai9 (by omega)]
  simp[prRules]
 |m+1,n,acc,hm,hl=>by
  have hn:n<p.Rules.length:=by omega
  have hr:=h p.Rules[n] (av8 hn)
  obtain⟨g0,g1,g2,g3⟩:=rule_len hr
  have g4:=lvW_len p.Rules[n].Level.toNat
  obtain⟨_,hi⟩:=lv_at hr.level F
  have h19:M19 F p.Rules[n].When=some (trE p.Rules[n].When).pr:=by
   have:=M19_tr hr.gd hr.cnt F (by have:=hr.dep;omega)
   rwa [<-hr.eq] at this
  have ih:=M5_R F hF p k h m (n+1) (acc++prRule p.Rules[n]) (by omega) (by rw[ba8];omega)
  rw[M5_L1,idx_nat hn,bn9,if_pos (by simp;omega),if_pos (by simp;omega),if_pos (by simp;omega),if_pos (by simp;omega),hi,bn9,if_pos (by simp;omega),if_pos (by simp;omega),h19,bn9,if_pos (by simp;omega),if_pos (by simp;omega),if_pos (by simp;omega),show((n:Int)+1)=((n+1:Nat):Int) from rfl]
  refine aa9 ih ?_
  rw[bj8 hn,prRules,bo8]
theorem M5_W(F:Nat)(p:TPolicy)(k:List UInt8->Option (List UInt8×Int))(h:∀r,r∈p.Waivers->GWaiver r):∀(m n:Nat) (acc:List UInt8),n+m=p.Waivers.length->acc.length+m*3000<=20000000000->M5_L2 F p k m (n:Int) acc=k (acc++prWaivers (p.Waivers.drop n))
 |0,n,acc,hn,_=>by
  rw[M5_L2,ai9 (by omega)]
  simp[prWaivers]
 |m+1,n,acc,hm,hl=>by
  have hn:n<p.Waivers.length:=by omega
  have hr:=h p.Waivers[n] (av8 hn)
  obtain⟨g0,g1,g2,g3,g5,g6⟩:=waiver_len hr
  have g4:=lvW_len p.Waivers[n].Level.toNat
  obtain⟨_,hi⟩:=lv_at hr.level F
  have ih:=M5_W F p k h m (n+1) (acc++prWaiver p.Waivers[n]) (by omega) (by rw[ba8];omega)
  rw[M5_L2,idx_nat hn,bn9,if_pos (by simp;omega),if_pos (by simp;omega),M20_eq F hr.subj,bn9,if_pos (by simp;omega),if_pos (by simp;omega),M14_eq' F (by have:=hr.from';omega),bn9,if_pos (by simp;omega),if_pos (by simp;omega),M14_eq' F (by have:=hr.to';omega),bn9,if_pos (by simp;omega),if_pos (by simp;omega),if_pos (by simp;omega),if_pos (by simp;omega),hi,bn9,if_pos (by simp;omega),if_pos (by simp;omega),if_pos (by simp;omega),show((n:Int)+1)=((n+1:Nat):Int) from rfl]
  refine aa9 ih ?_
  rw[bj8 hn,prWaivers,bo8]
theorem prs_len2:∀{l:List TPolicyRule},(∀r,r∈l->GRule r)->(prRules l).length<=l.length*7300000
 |[],_=>by simp[prRules]
 |r::l,h=>by
  have:=prs_len2 (l:=l) fun u hu=>h u (by simp[hu])
  have h1:=(rule_len (h r (by simp))).1
  rw[prRules,ba8,bl8];omega
noncomputable def prP(p:TPolicy):List UInt8:=prRules p.Rules++prWaivers p.Waivers
theorem M4_ok{p:TPolicy}{F:Nat}(hF:12<=F)(hr:∀r,r∈p.Rules->GRule r)(hw:∀w,w∈p.Waivers->GWaiver w)(h1:p.Rules.length<=100)(h2:p.Waivers.length<=200)(h9:M9 F p=some 0):
  M4 F p=some (if 200000<(prP p).length then ([],3) else (prP p,0)):=by
 have hl:=prs_len2 hr
 have hl2:p.Rules.length*7300000<=100*7300000:=ay9 _ h1
 have hl3:p.Waivers.length*3000<=200*3000:=ay9 _ h2
 unfold M4
 rw[h9,bn9,if_neg (by decide),jn_def,M4_R F hF _ _ _ hr (by simp;omega),jn_def,M4_W F _ _ _ hw (by simp;omega),ab9]
 rw[show prRules p.Rules++prWaivers p.Waivers=prP p from rfl,M15,bn9]
 by_cases h:200000<(prP p).length
 ·rw[if_pos (decide_eq_true (by omega)),if_pos h]
 ·rw[if_neg (by simp;omega),if_neg h,M16,bn9]
theorem M5_ok{p:TPolicy}{F:Nat}(hF:12<=F)(hr:∀r,r∈p.Rules->GRule r)(hw:∀w,w∈p.Waivers->GWaiver w)(h1:p.Rules.length<=100)(h2:p.Waivers.length<=200)(h17:M17 F p=some 0):
  M5 F p=some (if 200000<(prP p).length then ([],3) else (prP p,0)):=by
 have hl:=prs_len2 hr
 have hl2:p.Rules.length*7300000<=100*7300000:=ay9 _ h1
 have hl3:p.Waivers.length*3000<=200*3000:=ay9 _ h2
 have e1:=fun k=>M5_R F hF p k hr p.Rules.length 0 [] (br9 _) (by simp;omega)
 have e2:=fun k=>M5_W F p k hw p.Waivers.length 0 (prRules p.Rules) (br9 _) (by omega)
 simp only[show((0:Nat):Int)=0 from rfl,bi8,ab9] at e1 e2
 unfold M5
 rw[h17,bn9,if_neg (by decide),jn_def,if_pos (by omega),bb9 p.Rules.length,e1,jn_def,if_pos (by omega),bb9 p.Waivers.length,e2]
 by_cases h:200000<(prP p).length
 ·rw[if_pos h]
  exact if_pos (decide_eq_true (show((prP p).length:Int)>200000 by omega))
 ·rw[if_neg h]
  exact if_neg (show ¬decide (((prP p).length:Int)>200000)=true by simp;omega)
theorem lv_run{l:Int}(h:1<=l/\l<=4):lvW l.toNat≠[]/\(lvW l.toNat).all run=true:=by
 have:l=1\/l=2\/l=3\/l=4:=by omega
 rcases this with rfl|rfl|rfl|rfl<;>decide
theorem rds_rule{r:TPolicyRule}(h:GRule r){u:List UInt8}{ts:List Tok}(hu:Rds u ts):Rds (prRule r++u) ((1,wRule)::(tkRule r++ts)):=by
 obtain⟨n1,n2⟩:=name_run h.name
 obtain⟨a1,a2⟩:=name_run h.about
 obtain⟨l1,l2⟩:=lv_run h.level
 have h1:=rds_pr h.gd (10::u) ts (sep_bl rfl) (rds_bl rfl hu)
 have h2:=rds_run l1 l2 (sep_bl rfl) (rds_word (w:=wWhen) (by decide) (by decide) h1)
 have h3:=rds_run a1 a2 (sep_bl (c:=32) rfl) (rds_bl (c:=32) rfl h2)
 have h4:=rds_run n1 n2 (sep_bl rfl) (rds_word (w:=wAbout) (by decide) (by decide) h3)
 have h5:=rds_run (r:=wRule) (by decide) (by decide) (sep_bl (c:=32) rfl) (rds_bl (c:=32) rfl h4)
 simpa[prRule,tkRule,wRule,wAbout,wWhen] using h5
theorem rds_waiver{w:TWaiver}(h:GWaiver w){u:List UInt8}{ts:List Tok}(hu:Rds u ts):Rds (prWaiver w++u) ((1,wWaive)::(tkWaiver w++ts)):=by
 obtain⟨n1,n2⟩:=name_run h.rule
 obtain⟨o1,o2⟩:=name_run h.owner
 obtain⟨l1,l2⟩:=lv_run h.level
 obtain⟨f1,f2⟩:=itoa_run w.From
 obtain⟨t1,t2⟩:=itoa_run w.To
 have h1:=rds_run l1 l2 (sep_bl (c:=10) rfl) (rds_bl (c:=10) rfl hu)
 have h2:=rds_run o1 o2 (sep_bl rfl) (rds_word (w:=wAs) (by decide) (by decide) h1)
 have h3:=rds_run t1 t2 (sep_bl rfl) (rds_word (w:=wBy) (by decide) (by decide) h2)
 have h4:=rds_run f1 f2 (sep_bl rfl) (rds_word (w:=wTo) (by decide) (by decide) h3)
 have h5:=rds_txt (val_all h.subj) (rds_word (w:=wFrom) (by decide) (by decide) h4)
 have h6:=rds_run n1 n2 (sep_bl rfl) (rds_word (w:=wFor) (by decide) (by decide) h5)
 have h7:=rds_run (r:=wWaive) (by decide) (by decide) (sep_bl (c:=32) rfl) (rds_bl (c:=32) rfl h6)
 simpa[prWaiver,tkWaiver,wWaive,wFor,wFrom,wTo,wBy,wAs] using h7
theorem rds_waivers:∀{l:List TWaiver},(∀w,w∈l->GWaiver w)->Rds (prWaivers l) (tkWaivers l)
 |[],_=>.nil rfl
 |w::l,h=>rds_waiver (h w (by simp)) (rds_waivers fun u hu=>h u (by simp[hu]))
theorem rds_rules{u:List UInt8}{ts:List Tok}(hu:Rds u ts):∀{l:List TPolicyRule},(∀w,w∈l->GRule w)->Rds (prRules l++u) (tkRules l++ts)
 |[],_=>hu
 |w::l,h=>by
  have:=rds_rule (h w (by simp)) (rds_rules hu (l:=l) fun u hu=>h u (by simp[hu]))
  simpa[prRules,tkRules] using this
theorem rds_P{p:TPolicy}(hr:∀r,r∈p.Rules->GRule r)(hw:∀w,w∈p.Waivers->GWaiver w):Rds (prP p) (tkRules p.Rules++tkWaivers p.Waivers):=rds_rules (rds_waivers hw) hr
theorem M87_self(F:Nat)(l:List (List UInt8))(k:Option Bool):∀(m n:Nat),n+m=l.length->M87_L1 F l k (l.drop n) (n:Int)=k
 |0,n,h=>by rw[ai9 (by omega),M87_L1]
 |m+1,n,h=>by
  have hn:n<l.length:=by omega
  rw[bj8 hn,M87_L1,idx_nat hn,bn9,if_neg (by simp)]
  exact M87_self F l k m (n+1) (by omega)
theorem M87_eq(F:Nat)(l:List (List UInt8)):M87 F l l=some true:=by
 have:=M87_self F l (some true) l.length 0 (br9 _)
 rw[bi8,show((0:Nat):Int)=0 from rfl] at this
 unfold M87
 rw[if_neg (by simp),jn_def,this]
theorem M58_tr:∀t:Tr,∀F,t.dep<=F->M58 F t.toT t.toT=some true:=Tr.ind fun a b c d e ks ih F hF=>by
 rw[Tr.dep] at hF
 obtain⟨F,rfl⟩:∃G,F=G+1:=⟨F - 1,by omega⟩
 have hl:∀m n:Nat,n+m=ks.length->M88_L1 (M58 F) F (Tr.toKs ks) (some true) (Tr.toKs (ks.drop n)) (n:Int)=some true:=by
  intro m
  induction m with
  |zero=>intro n h;rw[ai9 (by omega),Tr.toKs,M88_L1]
  |succ m ihm=>
   intro n h
   have hn:n<ks.length:=by omega
   have ht:ks[n]∈ks:=av8 _
   rw[bj8 hn,Tr.toKs_map,Tr.toKs_map,bd8,M88_L1,Tr.dec,bn9,<-Tr.toKs_map,<-Tr.toKs_map,idx_toKs hn,bn9,Tr.dec,bn9,ih _ ht F (by have:=dep_kid ht;omega),bn9,if_neg (by decide)]
   exact ihm (n+1) (by omega)
 have h0:=hl ks.length 0 (br9 _)
 rw[bi8,show((0:Nat):Int)=0 from rfl] at h0
 show M58_B (M58 F) F _ _=_
 rw[Tr.toT,M58_B,if_pos (by simp),if_pos (by simp),M87_eq,bn9,if_pos rfl,if_pos (by simp),if_pos (by simp)]
 unfold M88
 rw[if_neg (by simp),jn_def,h0]
 rfl
theorem M27_self(F:Nat)(l:List TPolicyRule)(k:Option Bool)(h:∀r,r∈l->M28 F r r=some true):∀(m n:Nat),n+m=l.length->M27_L1 F l k (l.drop n) (n:Int)=k
 |0,n,hn=>by rw[ai9 (by omega),M27_L1]
 |m+1,n,hm=>by
  have hn:n<l.length:=by omega
  rw[bj8 hn,M27_L1,idx_nat hn,bn9,h _ (av8 hn),bn9,if_neg (by decide)]
  exact M27_self F l k h m (n+1) (by omega)
theorem M29_self(F:Nat)(l:List TWaiver)(k:Option Bool):∀(m n:Nat),n+m=l.length->M29_L1 F l k (l.drop n) (n:Int)=k
 |0,n,h=>by rw[ai9 (by omega),M29_L1]
 |m+1,n,h=>by
  have hn:n<l.length:=by omega
  rw[bj8 hn,M29_L1,idx_nat hn,bn9,if_neg (by simp)]
  exact M29_self F l k m (n+1) (by omega)
theorem M8_self{F:Nat}(hF:12<=F){p:TPolicy}(h:∀r,r∈p.Rules->GRule r):M8 F p p=some true:=by
 have h28:∀r,r∈p.Rules->M28 F r r=some true:=fun r hr=>by
  have g:=h r hr
  have h58:M58 F r.When r.When=some true:=by
   have:=M58_tr (trE r.When) F (by have:=g.dep;omega)
   rwa [<-g.eq] at this
  unfold M28
  rw[if_pos (by simp),if_pos (by simp),if_pos (by simp),h58]
  rfl
 have h1:=M27_self F p.Rules (some true) h28 p.Rules.length 0 (br9 _)
 have h2:=M29_self F p.Waivers (some true) p.Waivers.length 0 (br9 _)
 rw[bi8,show((0:Nat):Int)=0 from rfl] at h1 h2
 unfold M8 M27 M29
 rw[if_neg (by simp),jn_def,h1,bn9,if_pos rfl,if_neg (by simp),jn_def,h2]
 rfl
theorem rlF_zero:∀{l:List TPolicyRule} {seen:List (List UInt8)},rlF seen l=0->∀r,r∈l->nameB r.Name=true/\nameB r.About=true/\vTT r.When=0/\1<=r.Level/\r.Level<=4
 |[],_,_,r,hr=>by simp at hr
 |x::l,seen,h,r,hr=>by
  rw[rlF] at h
  cases h1:nameB x.Name
  ·rw[if_pos h1] at h;cases h
  ·rw[if_neg (by rw[h1];decide)] at h
   by_cases h2:(seen.any fun n=>n==x.Name)=true
   ·rw[if_pos h2] at h;cases h
   ·rw[if_neg h2] at h
    cases h3:nameB x.About
    ·rw[if_pos h3] at h;cases h
    ·rw[if_neg (by rw[h3];decide)] at h
     by_cases h4:vTT x.When=0
     ·rw[if_pos h4] at h
      by_cases h5:(decide (x.Level<1)||decide (x.Level>4))=true
      ·rw[if_pos h5] at h;cases h
      ·rw[if_neg h5] at h
       rcases am8.1 hr with rfl|hr
       ·exact⟨h1,h3,h4,by simp at h5;omega⟩
       ·exact rlF_zero h r hr
     ·rw[if_neg h4] at h;exact absurd h h4
theorem wvF_zero{p:TPolicy}{w:TWaiver}(h:wvF p w=0):(p.Rules.any fun r=>r.Name==w.Rule)=true/\valB w.Subject=true/\(0<=w.From/\w.From<=w.To/\w.To<=1000000)/\nameB w.Owner=true/\1<=w.Level/\w.Level<=3:=by
 unfold wvF at h
 cases h1:p.Rules.any fun r=>r.Name==w.Rule
 ·rw[if_pos h1] at h;cases h
 ·rw[if_neg (by rw[h1];decide)] at h
  cases h2:valB w.Subject
  ·rw[if_pos h2] at h;cases h
  ·rw[if_neg (by rw[h2];decide)] at h
   by_cases h3:starB w.Subject=true
   ·rw[if_pos h3] at h;cases h
   ·rw[if_neg h3] at h
    by_cases h4:(decide (w.From<0)||decide (w.From>w.To)||decide (w.To>1000000))=true
    ·rw[if_pos h4] at h;cases h
    ·rw[if_neg h4] at h
     cases h5:nameB w.Owner
     ·rw[if_pos h5] at h;cases h
     ·rw[if_neg (by rw[h5];decide)] at h
      by_cases h6:(decide (w.Level<1)||decide (w.Level>3))=true
      ·rw[if_pos h6] at h;cases h
      ·simp at h4 h6
       exact⟨rfl,rfl,by omega,rfl,by omega,by omega⟩
theorem wvsF_zero{p:TPolicy}:∀{l:List TWaiver},wvsF p l=0->∀w,w∈l->wvF p w=0
 |[],_,w,hw=>by simp at hw
 |x::l,h,w,hw=>by
  rw[wvsF] at h
  by_cases h1:wvF p x=0
  ·rw[if_pos h1] at h
   rcases am8.1 hw with rfl|hw
   ·exact h1
   ·exact wvsF_zero h w hw
  ·rw[if_neg h1] at h;exact absurd h h1
theorem vP_zero{p:TPolicy}(hp:okTPolicy p)(h:vP p=0):(p.Rules.length<=100/\p.Waivers.length<=200)/\(∀r,r∈p.Rules->GRule r)/\∀w,w∈p.Waivers->GWaiver w:=by
 unfold vP at h
 by_cases h1:100<p.Rules.length
 ·rw[if_pos h1] at h;cases h
 rw[if_neg h1] at h
 by_cases h2:200<p.Waivers.length
 ·rw[if_pos h2] at h;cases h
 rw[if_neg h2] at h
 by_cases h3:rlF [] p.Rules=0
 ·rw[if_pos h3] at h
  have hr:∀r,r∈p.Rules->GRule r:=fun r hr=>by
   obtain⟨g1,g2,g3,g4⟩:=rlF_zero h3 r hr
   have hok:okTTest r.When:=(hp.1.1 r hr).2.2.1
   obtain⟨e1,e2⟩:=trE_spec hok
   unfold vTT vT at g3
   by_cases h5:60<(trE r.When).cnt\/12<(trE r.When).dep
   ·rw[if_pos h5] at g3;cases g3
   ·rw[if_neg h5] at g3
    exact⟨g1,g2,g4,e1,e2,gd_of _ g3,by omega,by omega⟩
  refine⟨⟨by omega,by omega⟩,hr,fun w hw=>?_⟩
  obtain⟨g1,g2,g3,g4,g5⟩:=wvF_zero (wvsF_zero h w hw)
  obtain⟨r,hr1,hr2⟩:=bt9.1 g1
  have hn:=(hr r hr1).name
  rw[show r.Name=w.Rule by simpa using hr2] at hn
  exact⟨hn,g2,by omega,by omega,g4,by omega⟩
 ·rw[if_neg h3] at h;exact absurd h h3
theorem plain_3(p:TPolicy)(hp:okTPolicy p):∃F,M3 F p=some true:=by
 refine⟨fuP p+300000,?_⟩
 have h9:=M9_eq p hp (fuP p+300000) (by omega)
 have h17:=M17_eq p hp (fuP p+300000) (by omega)
 by_cases h0:vP p=0
 ·rw[h0] at h9 h17
  obtain⟨⟨l1,l2⟩,hr,hw⟩:=vP_zero hp h0
  unfold M3
  rw[M4_ok (by omega) hr hw l1 l2 h9,M5_ok (by omega) hr hw l1 l2 h17]
  by_cases hl:200000<(prP p).length
  ·rw[if_pos hl];rfl
  ·rw[if_neg hl]
   have h7:=read_ok (s:=prP p) (F:=fuP p+300000) (by omega) (by omega) hr hw l1 l2 h9 (rds_P hr hw)
   simp only[bn9]
   rw[if_neg (by simp),if_neg (by decide),if_neg (by decide),h7]
   simp only[bn9]
   rw[M8_self (by omega) hr]
   rfl
 ·have h4:M4 (fuP p+300000) p=some ([],vP p):=by
   unfold M4;rw[h9,bn9,if_pos (by simpa using h0)]
  have h5:M5 (fuP p+300000) p=some ([],vP p):=by
   unfold M5;rw[h17,bn9,if_pos (by simpa using h0)]
  unfold M3
  rw[h4,h5]
  simp only[bn9]
  rw[if_neg (by simp),if_neg (by simp),if_pos (by simpa using h0)]
  rfl
end Go.Proofs.YtppfkkkifdbnaaaGreatDoor
