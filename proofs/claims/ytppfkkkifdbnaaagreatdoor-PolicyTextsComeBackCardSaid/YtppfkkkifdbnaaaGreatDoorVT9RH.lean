/- Part of the proof. -/
import Derived.Test.YtppfkkkifdbnaaaGreatDoorVT9RA
set_option linter.unusedSimpArgs false
set_option linter.unusedVariables false
namespace Go.Proofs.YtppfkkkifdbnaaaGreatDoor
open Go Go.Pv
set_option maxRecDepth 100000
def preB(x t:List UInt8):Bool:=decide (x.length<=t.length)&&t.take x.length==x
theorem M51_eq(F:Nat)(t x:List UInt8):M51 F t x=some (preB x t):=by
 unfold M51 M79 preB
 by_cases h:x.length<=t.length
 ·rw[if_pos (decide_eq_true (by omega)),if_pos ⟨by omega,by omega⟩,decide_eq_true h]
  simp
 ·rw[if_neg (by simp;omega),decide_eq_false h]
  simp
theorem signs_ok{F:Nat}{r:Tpolicy_reader}{y:Nat}(hy:y<=r.s.length){k:Int->Option (Int×Int×(List UInt8)×Int×Int×Int)} :
  ∀(m n:Nat),n+m=8->M22_L2 F r (y:Int) k m (n:Int)=match (signs.drop n).find? fun x=>preB x (r.s.drop y) with|some x=>k (x.length:Int)|none=>k 0
 |0,n,h=>by
  obtain rfl:n=8:=by omega
  rfl
 |m+1,n,h=>by
  have hn:n<signs.length:=by simp[signs];omega
  have ih:=signs_ok (F:=F) (k:=k) hy m (n+1) (by omega)
  rw[M22_L2]
  have hi:=idx_nat hn
  change ((idx signs (n:Int)).bind _)=_
  rw[hi,bn9,if_pos ⟨by omega,by omega⟩,bb9,M51_eq,bn9,show((n:Int)+1)=((n+1:Nat):Int) from rfl,ih,bj8 hn,List.find?_cons]
  cases preB signs[n] (r.s.drop y)<;>rfl
theorem find_sign{g u:List UInt8}(hg:g∈signs)(hu:∀c v,u=c::v->c≠61):(signs.find? fun x=>preB x (g++u))=some g:=by
 have h:∀{d:UInt8},preB [d,61] ([d]++u)=false:=fun {d}=>by
  unfold preB
  cases u with
  |nil=>rfl
  |cons c v=>
   have:=hu c v rfl
   simp[this]
 have h60:=h (d:=60)
 have h62:=h (d:=62)
 simp only[signs,am8,List.not_mem_nil,or_false] at hg
 rcases hg with rfl|rfl|rfl|rfl|rfl|rfl|rfl|rfl
 ·simp[signs,preB]
 ·simp[signs,preB]
 ·simp only[signs,List.find?_cons,h60]
  simp[preB]
 ·simp only[signs,List.find?_cons,h62]
  simp[preB]
 all_goals simp[signs,preB]
theorem sign_head{g u:List UInt8}(hg:g∈signs):∀c v,g++u=c::v->run c=false/\spc c=false/\c≠34:=by
 simp only[signs,am8,List.not_mem_nil,or_false] at hg
 rcases hg with rfl|rfl|rfl|rfl|rfl|rfl|rfl|rfl<;>(intro c v h;simp at h;rw[<-h.1];decide)
theorem sign_len{g:List UInt8}(hg:g∈signs):1<=g.length/\g.length<=2:=by
 simp only[signs,am8,List.not_mem_nil,or_false] at hg
 rcases hg with rfl|rfl|rfl|rfl|rfl|rfl|rfl|rfl<;>decide
theorem next_sgn{F:Nat}{r:Tpolicy_reader}(hl:r.s.length<=200000)(hF:r.s.length<F){b g u:List UInt8}{n:Nat}(he:r.end_=n)(hn:n<=r.s.length)(h:r.s.drop n=b++(g++u))(hb:b.all blk=true)
  (hg:g∈signs) (hu:∀c v,u=c::v->c≠61):
  M22 F r=some (((n+b.length+g.length:Nat):Int),3,g,((n+b.length:Nat):Int),r.at_,r.bad):=by
 have hd:=drop_app h
 have hlen:=drop_len hn h
 have hgl:=sign_len hg
 have h48:=M48_ok hl hF he hn h hb (fun c' v hv=>(sign_head hg c' v hv).2.1)
 obtain⟨c,v,hcv⟩:∃c v,g++u=c::v:=by
  cases g with
  |nil=>simp at hgl
  |cons c v=>exact⟨c,v++u,rfl⟩
 obtain⟨h1,h2,h3⟩:=idx_drop (show r.s.drop (n+b.length)=c::v by rw[hd,hcv])
 obtain⟨c1,c2,c3⟩:=sign_head hg c v hcv
 have hs:=signs_ok (F:=F) (r:=r) (y:=n+b.length) (by omega) (k:=fun(n113:Int)=>jn (fun(n125:Int) (n126:Int) (n127:Int)=>if 0<=((n+b.length:Nat):Int)/\0<=(w64 (((n+b.length:Nat):Int)+n125))/\((n+b.length:Nat):Int).toNat<=(w64 (((n+b.length:Nat):Int)+n125)).toNat/\(w64 (((n+b.length:Nat):Int)+n125)).toNat<=r.s.length then some ((w64 (((n+b.length:Nat):Int)+n125)),3,((r.s.drop ((n+b.length:Nat):Int).toNat).take ((w64 (((n+b.length:Nat):Int)+n125)).toNat - ((n+b.length:Nat):Int).toNat)),((n+b.length:Nat):Int),n126,n127) else none) (fun k124=>if (n113==0)=true then (M26 F ((n+b.length:Nat):Int) 6 (Tpolicy_reader.mk r.s ((n+b.length:Nat):Int) r.now r.at_ r.bad)).bind fun y129=>k124 1 (y129.1) (y129.2)
 else k124 n113 r.at_ r.bad)) 8 0 rfl
 rw[bi8,hd,find_sign hg hu] at hs
 unfold M22
 rw[h48,bn9]
 simp only[jn_def]
 rw[if_neg (by simp;omega),h1,bn9,M49_eq,bn9,c1,if_neg (by simp),bn9,if_neg (by
  have:=u8n (c:=c) (k:=34) (by omega)
  rw[show((34:Nat):Int)=34 from rfl] at this
  rw[this];simpa using c3),if_pos (by decide)]
 simp only[jn_def] at hs
 refine aa9 hs ?_
 have hlg:(g++u).length=g.length+u.length:=by simp
 have hz:((g.length:Int)==0)=false:=beq_false_of_ne (by omega)
 rw[hz,if_neg (by simp),w64_id (by omega) (by omega)]
 have e:(((n+b.length:Nat):Int)+(g.length:Int)).toNat=n+b.length+g.length:=by omega
 rw[e,bb9,if_pos ⟨by omega,by omega,by omega,by omega⟩,hd,show n+b.length+g.length - (n+b.length)=g.length by omega,List.take_left]
 rfl
def Sat(s:List UInt8)(n k:Int)(t:List UInt8)(ts:List Tok):Prop:=∃m:Nat,n=m/\m<=s.length/\k=(hdT ts).1/\t=(hdT ts).2/\Rds (s.drop m) ts.tail
theorem nx{s:List UInt8}{F:Nat}{m:Nat}{ts:List Tok}{now:Tpolicy_token}{x z:Int}(hs:s.length<=200000)(hF:s.length<F)(hm:m<=s.length)(h:Rds (s.drop m) ts):
  ∃n k t a,M22 F ⟨s,m,now,x,z⟩=some (n,k,t,a,x,z)/\Sat s n k t ts:=by
 generalize hd:s.drop m=w at h
 cases h with
 |nil hb=>
  refine⟨_,_,_,_,next_end (r:=⟨s,m,now,x,z⟩) hs hF rfl hm (by rw[hd];exact hb),s.length,rfl,ab8 _,rfl,rfl,?_⟩
  rw[List.drop_length];exact .nil rfl
 | @run b r u ts hb hr hrr hu h=>
  have hlen:=drop_len hm hd
  refine⟨_,_,_,_,next_run (r:=⟨s,m,now,x,z⟩) hs hF rfl hm hd hb hr hrr hu,m+b.length+r.length,rfl,?_,rfl,rfl,?_⟩
  ·simp at hlen;omega
  ·rw[drop_app (drop_app hd)];exact h
 | @txt b v u ts hb hv h=>
  obtain⟨q,h1,h2,h3⟩:=next_txt (F:=F) (r:=⟨s,m,now,x,z⟩) hs hF rfl hm hd hb hv
  exact⟨_,_,_,_,h1,q,rfl,h2,rfl,rfl,by rw[show s.drop q=u from h3];exact h⟩
 | @sgn b g u ts hb hg hu h=>
  have hlen:=drop_len hm hd
  refine⟨_,_,_,_,next_sgn (r:=⟨s,m,now,x,z⟩) hs hF rfl hm hd hb hg hu,m+b.length+g.length,rfl,?_,rfl,rfl,?_⟩
  ·simp at hlen;omega
  ·rw[drop_app (drop_app hd)];exact h
section
variable{s:List UInt8}{F:Nat}{n k a x:Int}{t:List UInt8}{ts:List Tok}
theorem nxS{z:Int}(hs:s.length<=200000)(hF:s.length<F){now:Tpolicy_token}{p:Tok}(h:Sat s n k t (p::ts)):∃n' k' t' a',M22 F ⟨s,n,now,x,z⟩=some (n',k',t',a',x,z)/\Sat s n' k' t' ts:=by
 obtain⟨m,rfl,hm,_,_,hr⟩:=h
 exact nx hs hF hm hr
theorem is_yes(hs:s.length<=200000)(hF:s.length<F){kk:Int}{tt:List UInt8}(h:Sat s n k t ((kk,tt)::ts)):
  ∃n' k' t' a',M23 F kk tt ⟨s,n,⟨k,t,a⟩,x,0⟩=some (true,n',k',t',a',x,0)/\Sat s n' k' t' ts:=by
 have hk:k=kk:=by obtain⟨m,_,_,h1,_⟩:=h;exact h1
 have ht:t=tt:=by obtain⟨m,_,_,_,h1,_⟩:=h;exact h1
 obtain⟨n',k',t',a',h1,h2⟩:=nxS (x:=x) (z:=0) hs hF (now:=⟨k,t,a⟩) h
 refine⟨n',k',t',a',?_,h2⟩
 unfold M23
 rw[if_neg (by simp),if_neg (by simp[hk]),if_neg (by simp[ht]),h1]
 rfl
theorem is_no{kk:Int}{tt:List UInt8}(h:Sat s n k t ts)(hne:hdT ts≠(kk,tt)):M23 F kk tt ⟨s,n,⟨k,t,a⟩,x,0⟩=some (false,n,k,t,a,x,0):=by
 obtain⟨m,_,_,h1,h2,_⟩:=h
 unfold M23
 rw[if_neg (by simp)]
 by_cases hk:k=kk
 ·rw[if_neg (by simp[hk]),if_pos]
  have:t≠tt:=fun e=>hne (by rw[<-hk,<-e,h1,h2])
  simp[this]
 ·rw[if_pos (by simp[hk])]
theorem must_ok(hs:s.length<=200000)(hF:s.length<F){tt:List UInt8}(h:Sat s n k t ((1,tt)::ts)):
  ∃n' k' t' a',M53 F tt ⟨s,n,⟨k,t,a⟩,x,0⟩=some (n',k',t',a',x,0)/\Sat s n' k' t' ts:=by
 obtain⟨n',k',t',a',h1,h2⟩:=is_yes (a:=a) (x:=x) hs hF h
 exact⟨n',k',t',a',by unfold M53;rw[h1];rfl,h2⟩
theorem name_ok(hs:s.length<=200000)(hF:s.length<F){tt:List UInt8}(hn:nameB tt=true)(ho:okS tt)(h:Sat s n k t ((1,tt)::ts)):
  ∃n' k' t' a',M52 F ⟨s,n,⟨k,t,a⟩,x,0⟩=some (tt,n',k',t',a',x,0)/\Sat s n' k' t' ts:=by
 have hk:k=1:=by obtain⟨m,_,_,h1,_⟩:=h;exact h1
 have ht:t=tt:=by obtain⟨m,_,_,_,h1,_⟩:=h;exact h1
 obtain⟨n',k',t',a',h1,h2⟩:=nxS (x:=x) (z:=0) hs hF (now:=⟨k,t,a⟩) h
 refine⟨n',k',t',a',?_,h2⟩
 unfold M52
 rw[if_neg (by simp[hk]),h1]
 simp only[ht,M30_eq F tt ho,bn9,hn]
 rfl
theorem value_ok(hs:s.length<=200000)(hF:s.length<F){tt:List UInt8}(h:Sat s n k t ((2,tt)::ts)):
  ∃n' k' t' a',M56 F ⟨s,n,⟨k,t,a⟩,x,0⟩=some (tt,n',k',t',a',x,0)/\Sat s n' k' t' ts:=by
 have hk:k=2:=by obtain⟨m,_,_,h1,_⟩:=h;exact h1
 have ht:t=tt:=by obtain⟨m,_,_,_,h1,_⟩:=h;exact h1
 obtain⟨n',k',t',a',h1,h2⟩:=nxS (x:=x) (z:=0) hs hF (now:=⟨k,t,a⟩) h
 refine⟨n',k',t',a',?_,h2⟩
 unfold M56
 rw[if_neg (by simp[hk]),h1]
 simp only[ht,bn9]
def lvW:Nat->List UInt8
 |1=>[112,97,115,115]
 |2=>[110,111,116,101]
 |3=>[119,97,114,110]
 |4=>[100,101,110,121]
 |_=>[]
theorem level_ok(hs:s.length<=200000)(hF:s.length<F){l:Int}(hl:1<=l/\l<=4)(h:Sat s n k t ((1,lvW l.toNat)::ts)):
  ∃n' k' t' a',M54 F ⟨s,n,⟨k,t,a⟩,x,0⟩=some (l,n',k',t',a',x,0)/\Sat s n' k' t' ts:=by
 have hk:k=1:=by obtain⟨m,_,_,h1,_⟩:=h;exact h1
 have ht:t=lvW l.toNat:=by obtain⟨m,_,_,_,h1,_⟩:=h;exact h1
 obtain⟨n',k',t',a',h1,h2⟩:=nxS (x:=x) (z:=0) hs hF (now:=⟨k,t,a⟩) h
 refine⟨n',k',t',a',?_,h2⟩
 have hi:∀ws,M11 F=some ws->M80 F ws t=some l:=by
  intro ws hw
  rw[M11] at hw
  injection hw with hw
  subst hw
  rw[ht]
  have:l=1\/l=2\/l=3\/l=4:=by omega
  rcases this with rfl|rfl|rfl|rfl<;>rfl
 unfold M54
 obtain⟨ws,hw⟩:∃ws,M11 F=some ws:=⟨_,rfl⟩
 rw[hw,bn9]
 simp only[hi ws hw,bn9]
 rw[if_neg (by simp[hk]),if_neg (by simp;omega),h1]
 rfl
def tkL:List (List UInt8)->List Tok
 |[]=>[]
 |v::l=>(3,[44])::(2,v)::tkL l
theorem values_L{s:List UInt8}{F:Nat}(hs:s.length<=200000)(hF:s.length<F){x:Int}{ts:List Tok}(hts:hdT ts≠(3,[44])){r:Tpolicy_reader}(hr:r.s=s)
  {kk:Int->Int->(List UInt8)->Int->Int->Int->(List (List UInt8))->Option ((List (List UInt8))×Int×Int×(List UInt8)×Int×Int×Int)} :
  ∀(l:List (List UInt8)) (fuel:Nat) (n k a:Int) (t:List UInt8) (acc:List (List UInt8)),l.length<fuel->acc.length+l.length<=200000->Sat s n k t (tkL l++ts)->
   ∃n' k' t' a',M132_L1 F r kk fuel n k t a x 0 acc=kk n' k' t' a' x 0 (acc++l)/\Sat s n' k' t' ts
 |[],fuel,n,k,a,t,acc,hf,_,h=>by
  obtain⟨fuel,rfl⟩:∃q,fuel=q+1:=⟨fuel - 1,by simp at hf;omega⟩
  refine⟨n,k,t,a,?_,h⟩
  rw[M132_L1,hr,is_no (F:=F) (a:=a) (x:=x) (show Sat s n k t ts from h) hts]
  simp
 |v::l,fuel,n,k,a,t,acc,hf,hl,h=>by
  obtain⟨fuel,rfl⟩:∃q,fuel=q+1:=⟨fuel - 1,by simp at hf;omega⟩
  obtain⟨n1,k1,t1,a1,h1,h2⟩:=is_yes (a:=a) (x:=x) hs hF (show Sat s n k t ((3,[44])::((2,v)::(tkL l++ts))) from h)
  obtain⟨n2,k2,t2,a2,h3,h4⟩:=value_ok (a:=a1) (x:=x) hs hF h2
  obtain⟨n3,k3,t3,a3,h5,h6⟩:=values_L hs hF (x:=x) hts hr l fuel n2 k2 a2 t2 (acc++[v]) (by simp at hf;omega) (by simp at hl ⊢;omega) h4
  refine⟨n3,k3,t3,a3,?_,h6⟩
  rw[M132_L1,hr,h1]
  simp only[bn9,if_true,h3]
  rw[if_pos (by simp at hl ⊢;omega),h5]
  simp
theorem values_ok(hs:s.length<=200000)(hF:s.length<F)(hts:hdT ts≠(3,[44])){v:List UInt8}{l:List (List UInt8)}(hl:l.length<F/\l.length<200000)(h:Sat s n k t ((2,v)::(tkL l++ts))):
  ∃n' k' t' a',M132 F ⟨s,n,⟨k,t,a⟩,x,0⟩=some (v::l,n',k',t',a',x,0)/\Sat s n' k' t' ts:=by
 obtain⟨n1,k1,t1,a1,h1,h2⟩:=value_ok (a:=a) (x:=x) hs hF h
 obtain⟨n2,k2,t2,a2,h3,h4⟩:=values_L (F:=F) hs hF (x:=x) hts (r:=⟨s,n,⟨k,t,a⟩,x,0⟩) rfl (kk:=fun(n42:Int) (n43:Int) (s44:List UInt8) (n45:Int) (n46:Int) (n47:Int) (l48:List (List UInt8))=>some (l48,n42,n43,s44,n45,n46,n47)) l F n1 k1 a1 t1 [v] hl.1 (by simp;omega) h2
 refine⟨n2,k2,t2,a2,?_,h4⟩
 unfold M132
 rw[h1]
 simp only[bn9,jn_def]
 exact h3
end
theorem decNat_digits(u:Nat):Lib.decNat (Lib.decDigits u)=some u:=by
 have h:=decFrom_digits u
 have hn:=decDigits_ne u
 cases hd:Lib.decDigits u with
 |nil=>exact absurd hd hn
 |cons c r=>rw[hd] at h;exact h
theorem dig_head{u:Nat}{c:UInt8}{r:List UInt8}(h:Lib.decDigits u=c::r):48<=c.toNat/\c.toNat<=57:=decDigits_dig u c (by rw[h];simp)
theorem atoi_itoa(n:Int):Lib.atoi (Lib.itoa n)=some n:=by
 unfold Lib.itoa
 by_cases h:n<0
 ·rw[if_pos h]
  simp only[Lib.atoi,decNat_digits]
  simp;omega
 ·rw[if_neg h]
  cases hd:Lib.decDigits n.toNat with
  |nil=>exact absurd hd (decDigits_ne _)
  |cons c r=>
   have hc:=dig_head hd
   have e1:(c==45)=false:=beq_false_of_ne fun e=>by subst e;simp at hc
   have e2:(c==43)=false:=beq_false_of_ne fun e=>by subst e;simp at hc
   rw[Lib.atoi,e1,e2,<-hd,decNat_digits]
   simp;omega
theorem digits_len{u:Nat}(h:u<=1000000000000):(Lib.decDigits u).length<=13:=by
 rw[Lib.decDigits_length]
 exact nDigits_lt (k:=12) (by omega)
theorem digits_zero{u:Nat}{r:List UInt8}(h:Lib.decDigits u=48::r):u=0/\r=[]:=by
 by_cases h1:10<=u
 ·have:=decDigits_head h1
  rw[h] at this;simp at this
 ·rw[Lib.decDigits,dif_pos (by omega)] at h
  injection h with h2 h3
  have:=congrArg UInt8.toNat h2
  rw[UInt8.toNat_ofNat'] at this
  simp at this
  exact⟨by omega,h3.symm⟩
theorem digs_L{F:Nat}{y:List UInt8×Bool}{k:Bool->Option (Int×Int×Int×(List UInt8)×Int×Int×Int)}(hd:∀x,x∈y.1->48<=x.toNat/\x.toNat<=57):
  ∀m n:Nat,n+m=y.1.length->M57_L1 F y k m (n:Int) true=k true/\M57_L3 F y k m (n:Int) true=k true
 |0,n,_=>⟨rfl,rfl⟩
 |m+1,n,h=>by
  have hn:n<y.1.length:=by omega
  have ih:=digs_L (F:=F) (k:=k) hd m (n+1) (by omega)
  have hx:=hd y.1[n] (av8 _)
  have e1:decide ((y.1[n].toNat:Int)>=48)=true:=decide_eq_true (by omega)
  have e2:decide ((y.1[n].toNat:Int)<=57)=true:=decide_eq_true (by omega)
  constructor
  ·rw[M57_L1,jn_def,if_pos rfl,idx_nat hn,bn9,e1,if_pos rfl,bn9,e2,show((n:Int)+1)=((n+1:Nat):Int) from rfl]
   exact ih.1
  ·rw[M57_L3,jn_def,if_pos rfl,idx_nat hn,bn9,e1,if_pos rfl,bn9,e2,show((n:Int)+1)=((n+1:Nat):Int) from rfl]
   exact ih.2
theorem cutP{F:Nat}{t:List UInt8}:M85 F t [45]=some (if t.head? = some 45 then (t.tail,true) else (t,false)):=by
 unfold M85 M114 M79
 cases t with
 |nil=>rfl
 |cons c r=>
  have h1:decide (((c::r).length:Int)>=(([45]:List UInt8).length:Int))=true:=decide_eq_true (by simp;omega)
  rw[h1,if_pos rfl,if_pos ⟨by simp,by simp⟩]
  simp only[bn9]
  by_cases h:c=45
  ·subst h;simp
  ·simp[h]
section
variable{s:List UInt8}{F:Nat}{n k a x:Int}{t:List UInt8}{ts:List Tok}
theorem number_ok(hs:s.length<=200000)(hF:s.length<F){sg:Bool}{N:Int}(hN : -1000000000000<=N/\N<=1000000000000)(hsg:sg=true\/0<=N)(h:Sat s n k t ((1,Lib.itoa N)::ts)):
  ∃n' k' t' a',M57 F sg ⟨s,n,⟨k,t,a⟩,x,0⟩=some (N,n',k',t',a',x,0)/\Sat s n' k' t' ts:=by
 have hk:k=1:=by obtain⟨m,_,_,h1,_⟩:=h;exact h1
 have ht:t=Lib.itoa N:=by obtain⟨m,_,_,_,h1,_⟩:=h;exact h1
 obtain⟨n',k',t',a',h1,h2⟩:=nxS (x:=x) (z:=0) hs hF (now:=⟨k,t,a⟩) h
 refine⟨n',k',t',a',?_,h2⟩
 have hat:Lib.atoi t=some N:=by rw[ht];exact atoi_itoa N
 obtain⟨c,r,hcr⟩:∃c r,Lib.decDigits N.natAbs=c::r:=List.exists_cons_of_ne_nil (decDigits_ne _)
 have hlen:(c::r).length<=13:=by rw[<-hcr];exact digits_len (by omega)
 have hdig:∀y,y∈c::r->48<=y.toNat/\y.toNat<=57:=by rw[<-hcr];exact decDigits_dig _
 have hc:=hdig c (by simp)
 have hit:t=if N<0 then 45::(c::r) else c::r:=by
  rw[ht];unfold Lib.itoa
  by_cases hn:N<0
  ·rw[if_pos hn,if_pos hn,hcr]
  ·rw[if_neg hn,if_neg hn,<-hcr];congr 1;omega
 have hcut:M85 F t [45]=some (c::r,decide (N<0)):=by
  rw[cutP,hit]
  by_cases hn:N<0
  ·simp[hn]
  ·have:c≠45:=fun e=>by subst e;simp at hc
   simp[hn,this]
 have hlt:t.length<=18:=by
  rw[hit];split<;>simp at hlen ⊢<;>omega
 have h86:M86 F t=some (N,()):=by
  unfold M86;rw[hat];exact if_pos hlt
 have hz:((c.toNat:Int)==48)=true->N=0/\r=[]:=fun e=>by
  have:c=48:=by
   have e2:c.toNat=48:=by simp at e;omega
   exact UInt8.toNat_inj.1 (by rw[e2];rfl)
  subst this
  have:=digits_zero hcr
  exact⟨by omega,this.2⟩
 have hL:=fun kk=>digs_L (F:=F) (y:=(c::r,decide (N<0))) (k:=kk) hdig (c::r).length 0 (br9 _)
 unfold M57
 have h13:decide (((c::r).length:Int)<=13)=true:=decide_eq_true (by omega)
 have hne:(!((c::r)==([]:List UInt8)))=true:=rfl
 have hmx:((c::r).length:Int)<=9223372036854775807:=by omega
 have htn:(((c::r).length:Int):Int).toNat=(c::r).length:=bb9 _
 simp only[hcut,bn9,hk,beq_self_eq_true,if_true,hne,jn_def,if_pos hmx,htn,h13]
 simp only[show((0:Nat):Int)=0 from rfl] at hL
 cases sg with
 |true=>
  rw[if_pos rfl,(hL _).1]
  simp only[if_true,show idx (c::r) 0=some c from rfl,bn9]
  by_cases e:((c.toNat:Int)==48)=true
  ·obtain⟨rfl,rfl⟩:=hz e
   rw[if_pos e]
   rw[hk] at h1
   simp[h86,h1]
  ·rw[if_neg e]
   rw[hk] at h1
   simp[h86,h1]
 |false=>
  have hn0:¬N<0:=by rcases hsg with h|h;cases h;omega
  rw[decide_eq_false hn0] at hL ⊢
  rw[if_neg (by simp)]
  have hL:=fun kk=>digs_L (F:=F) (y:=(c::r,false)) (k:=kk) hdig (c::r).length 0 (br9 _)
  simp only[show((0:Nat):Int)=0 from rfl] at hL
  rw[if_pos (by rfl),(hL _).2]
  simp only[if_true,show idx (c::r) 0=some c from rfl,bn9]
  by_cases e:((c.toNat:Int)==48)=true
  ·obtain⟨rfl,rfl⟩:=hz e
   rw[if_pos e]
   rw[hk] at h1
   simp[h86,h1]
  ·rw[if_neg e]
   rw[hk] at h1
   simp[h86,h1]
end
end Go.Proofs.YtppfkkkifdbnaaaGreatDoor
namespace Go.Proofs.YtppfkkkifdbnaaaGreatDoor
open Go Go.Pv
set_option maxRecDepth 100000
inductive Gd:Tr->Prop
 |tru:Gd (.mk 1 [] [] 0 0 [])
 |is {a:Int} {nm v:List UInt8} {l:List (List UInt8)} (ha:a=2\/a=3) (hn:nameB nm=true) (hv:∀s,s∈v::l->valB s=true) (hl:(v::l).length<=50):Gd (.mk a nm (v::l) 0 0 [])
 |has {nm:List UInt8} (hn:nameB nm=true):Gd (.mk 4 nm [] 0 0 [])
 |num {nm:List UInt8} {op n:Int} (hn:nameB nm=true) (ho:1<=op/\op<=5) (hN : -1000000000000<=n/\n<=1000000000000):Gd (.mk 5 nm [] op n [])
 |not {t:Tr} (h:Gd t):Gd (.mk 6 [] [] 0 0 [t])
 |row {a:Int} {t u:Tr} {ks:List Tr} (ha:a=7\/a=8) (h:∀x,x∈t::u::ks->Gd x):Gd (.mk a [] [] 0 0 (t::u::ks))
theorem txC_val{a:List (List UInt8)}:∀(l:List (List UInt8)) (n:Nat),txC a l n=0->∀s,s∈l->valB s=true
 |[],_,_,s,hs=>by simp at hs
 |x::l,n,h,s,hs=>by
  rw[txC] at h
  cases hx:valB x with
  |false=>rw[hx] at h;simp at h
  |true=>
   rw[hx] at h
   simp only[bk9,by9,if_false] at h
   split at h
   ·cases h
   ·rcases am8.1 hs with rfl|hs
    ·exact hx
    ·exact txC_val l (n+1) h s hs
theorem flts_mem:∀{ks:List Tr},Tr.flts ks=0->∀t,t∈ks->t.flt=0
 |[],_,t,ht=>by simp at ht
 |u::r,h,t,ht=>by
  rw[Tr.flts] at h
  split at h
  ·rcases am8.1 ht with rfl|ht
   ·assumption
   ·exact flts_mem h t ht
  ·exact absurd h (by assumption)
def formB(x:TTest):Bool:=!(decide (2<=x.Kind)&&decide (x.Kind<=5))&&!(x.Name==[])||!(x.Kind==2||x.Kind==3)&&decide (0<x.Texts.length)||!(x.Kind==5)&&(x.Op != 0||x.N != 0) ||
  !(if x.Kind=6 then x.Kids.length==1 else if 7<=x.Kind then decide (2<=x.Kids.length) else x.Kids.length==0)
def nmB(x:TTest):Bool:=(decide (2<=x.Kind)&&decide (x.Kind<=5))&&!nameB x.Name
theorem nodeV_zero{x:TTest}(h:nodeV x=0):(1<=x.Kind/\x.Kind<=8)/\formB x=false/\nmB x=false/\(x.Kind=2\/x.Kind=3->txF x.Texts=0)/\(x.Kind=5->(1<=x.Op/\x.Op<=5)/\outN x.N=false):=by
 have e:nodeV x=if x.Kind<1\/8<x.Kind then 7 else if formB x=true then 2 else if nmB x=true then 8 else if x.Kind=2\/x.Kind=3 then txF x.Texts
  else if x.Kind=5 then (if x.Op<1\/5<x.Op then 7 else if outN x.N=true then 9 else 0) else 0:=rfl
 rw[e] at h
 by_cases h1:x.Kind<1\/8<x.Kind
 ·rw[if_pos h1] at h;cases h
 rw[if_neg h1] at h
 cases h2:formB x
 ·rw[h2,if_neg (by simp)] at h
  cases h3:nmB x
  ·rw[h3,if_neg (by simp)] at h
   refine⟨by omega,rfl,rfl,fun h4=>by rw[if_pos h4] at h;exact h,fun h5=>?_⟩
   rw[if_neg (by omega),if_pos h5] at h
   by_cases h6:x.Op<1\/5<x.Op
   ·rw[if_pos h6] at h;cases h
   ·rw[if_neg h6] at h
    cases h7:outN x.N
    ·exact⟨by omega,rfl⟩
    ·rw[h7,if_pos rfl] at h;cases h
  ·rw[h3,if_pos rfl] at h;cases h
 ·rw[h2,if_pos rfl] at h;cases h
theorem txF_zero{a:List (List UInt8)}(h:txF a=0):0<a.length/\a.length<=50/\∀s,s∈a->valB s=true:=by
 unfold txF at h
 by_cases h1:a.length=0
 ·rw[if_pos h1] at h;cases h
 ·rw[if_neg h1] at h
  by_cases h2:50<a.length
  ·rw[if_pos h2] at h;cases h
  ·rw[if_neg h2] at h
   exact⟨by omega,by omega,txC_val _ _ h⟩
theorem gd_of:∀t:Tr,t.flt=0->Gd t:=Tr.ind fun a b c d e ks ih h=>by
 rw[Tr.flt] at h
 by_cases hn:nodeV ⟨a,b,c,d,e,Tr.toKs ks⟩=0
 ·rw[if_pos hn] at h
  have hk:=flts_mem h
  have hkid:∀t,t∈ks->Gd t:=fun t ht=>ih t ht (hk t ht)
  have hlen:(Tr.toKs ks).length=ks.length:=Tr.toKs_len ks
  obtain⟨h1,h2,h3,h4,h5⟩:=nodeV_zero hn
  simp only[formB,nmB,hlen] at h1 h2 h3 h4 h5
  have hk8:a=1\/a=2\/a=3\/a=4\/a=5\/a=6\/a=7\/a=8:=by omega
  rcases hk8 with rfl|rfl|rfl|rfl|rfl|rfl|rfl|rfl
  ·simp at h2
   obtain⟨⟨⟨rfl,rfl⟩,rfl,rfl⟩,rfl⟩:=h2
   exact .tru
  ·simp at h2 h3
   obtain⟨⟨rfl,rfl⟩,rfl⟩:=h2
   obtain⟨g1,g2,g3⟩:=txF_zero (h4 (.inl rfl))
   cases c with
   |nil=>simp at g1
   |cons v l=>exact .is (.inl rfl) h3 g3 g2
  ·simp at h2 h3
   obtain⟨⟨rfl,rfl⟩,rfl⟩:=h2
   obtain⟨g1,g2,g3⟩:=txF_zero (h4 (.inr rfl))
   cases c with
   |nil=>simp at g1
   |cons v l=>exact .is (.inr rfl) h3 g3 g2
  ·simp at h2 h3
   obtain⟨⟨rfl,rfl,rfl⟩,rfl⟩:=h2
   exact .has h3
  ·simp at h2 h3
   obtain⟨rfl,rfl⟩:=h2
   obtain⟨g1,g2⟩:=h5 rfl
   simp[outN] at g2
   exact .num h3 g1 g2
  ·simp at h2
   obtain⟨⟨⟨rfl,rfl⟩,rfl,rfl⟩,hl⟩:=h2
   match ks,hl with
   |[t],_=>exact .not (hkid t (by simp))
  ·simp at h2
   obtain⟨⟨⟨rfl,rfl⟩,rfl,rfl⟩,hl⟩:=h2
   match ks,hl with
   |t::u::r,_=>exact .row (.inl rfl) hkid
  ·simp at h2
   obtain⟨⟨⟨rfl,rfl⟩,rfl,rfl⟩,hl⟩:=h2
   match ks,hl with
   |t::u::r,_=>exact .row (.inr rfl) hkid
 ·rw[if_neg hn] at h;exact absurd h hn
def Tr.kd:Tr->Int
 | .mk a _ _ _ _ _=>a
def wT:List UInt8:=[116,114,117,101]
def wIs:List UInt8:=[105,115]
def wBegins:List UInt8:=[98,101,103,105,110,115]
def wHas:List UInt8:=[104,97,115]
def wNot:List UInt8:=[110,111,116]
def wAnd:List UInt8:=[97,110,100]
def wOr:List UInt8:=[111,114]
def opW:Nat->List UInt8
 |1=>[60]
 |2=>[60,61]
 |3=>[61]
 |4=>[62,61]
 |5=>[62]
 |_=>[]
def parB(kd a:Int):Bool:=(a==7||a==8)&&(kd==6||kd==a||a==8)
def inn(kd a:Int)(l:List Tok):List Tok:=bif parB kd a then (3,[40])::(l++[(3,[41])]) else l
def tailT(w:List UInt8):List (List Tok)->List Tok
 |[]=>[]
 |x::l=>(1,w)::(x++tailT w l)
def joinT(w:List UInt8):List (List Tok)->List Tok
 |[]=>[]
 |x::l=>x++tailT w l
def tkV:List (List UInt8)->List Tok
 |[]=>[]
 |v::l=>(2,v)::tkL l
noncomputable section
mutual
def Tr.tk:Tr->List Tok
 | .mk a b c d e ks=>
  if a=1 then [(1,wT)] else if a=2 then (1,b)::(1,wIs)::tkV c else if a=3 then (1,b)::(1,wBegins)::tkV c else if a=4 then [(1,wHas),(1,b)]
  else if a=5 then [(1,b),(3,opW d.toNat),(1,Lib.itoa e)] else if a=6 then (1,wNot)::joinT wNot (Tr.tks 6 ks) else if a=7 then joinT wAnd (Tr.tks 7 ks) else joinT wOr (Tr.tks 8 ks)
def Tr.tks(kd:Int):List Tr->List (List Tok)
 |[]=>[]
 |t::r=>inn kd t.kd t.tk::Tr.tks kd r
end
end
theorem Tr.tks_map(kd:Int):∀ks:List Tr,Tr.tks kd ks=ks.map fun t=>inn kd t.kd t.tk
 |[]=>by simp[Tr.tks]
 |t::r=>by simp[Tr.tks,Tr.tks_map kd r]
theorem Tr.tk_mk{a:Int}{b:List UInt8}{c:List (List UInt8)}{d e:Int}{ks:List Tr}:Tr.tk (.mk a b c d e ks) =
  if a=1 then [(1,wT)] else if a=2 then (1,b)::(1,wIs)::tkV c else if a=3 then (1,b)::(1,wBegins)::tkV c else if a=4 then [(1,wHas),(1,b)]
  else if a=5 then [(1,b),(3,opW d.toNat),(1,Lib.itoa e)] else if a=6 then (1,wNot)::joinT wNot (Tr.tks 6 ks) else if a=7 then joinT wAnd (Tr.tks 7 ks) else joinT wOr (Tr.tks 8 ks):=by rw[Tr.tk]
abbrev TR:=Int×Int×List UInt8×Int×Int×Int×Int×List UInt8×List (List UInt8)×Int×Int×List KRow
def outT(n k:Int)(t:List UInt8)(a x:Int)(T:TTest):TR:=(n,k,t,a,x,0,T.Kind,T.Name,T.Texts,T.Op,T.N,T.Kids)
def RdT(s:List UInt8)(x:Int)(f:Tpolicy_reader->Option TR)(T:TTest)(l:List Tok)(bad:List Tok):Prop:=
 ∀n k t a ts,hdT ts ∉ bad->Sat s n k t (l++ts)->∃n' k' t' a',f ⟨s,n,⟨k,t,a⟩,x,0⟩=some (outT n' k' t' a' x T)/\Sat s n' k' t' ts
section
variable{s:List UInt8}{F:Nat}{x:Int}(hs:s.length<=200000)(hF:s.length<F)
include hs hF
theorem rowL{one:Tpolicy_reader->Option TR}{w:List UInt8}{bad:List Tok}(hw:(1,w) ∉ bad){f:Tr->List Tok}{ts:List Tok}(hb:hdT ts ∉ bad)(hts:hdT ts≠(1,w))
  {kk:Int->Int->(List UInt8)->Int->Int->Int->(List KRow)->Option TR} {g:Nat->Int->Int->(List UInt8)->Int->Int->Int->(List KRow)->Option TR}
  (hg:∀q n70 n71 s72 n73 n74 n75 l76,g (q+1) n70 n71 s72 n73 n74 n75 l76=(M23 F 1 w (Tpolicy_reader.mk s n70 (Tpolicy_token.mk n71 s72 n73) n74 n75)).bind fun y77=>if (y77.1)=true then (one (Tpolicy_reader.mk s (y77.2.1) (Tpolicy_token.mk (y77.2.2.1) (y77.2.2.2.1) (y77.2.2.2.2.1)) (y77.2.2.2.2.2.1) (y77.2.2.2.2.2.2))).bind fun y80=>if (l76++([rowK encTTest (TTest.mk (y80.2.2.2.2.2.2.1) (y80.2.2.2.2.2.2.2.1) (y80.2.2.2.2.2.2.2.2.1) (y80.2.2.2.2.2.2.2.2.2.1) (y80.2.2.2.2.2.2.2.2.2.2.1) (y80.2.2.2.2.2.2.2.2.2.2.2))]:List KRow)).length*88<=140737488355328 then g q (y80.1) (y80.2.1) (y80.2.2.1) (y80.2.2.2.1) (y80.2.2.2.2.1) (y80.2.2.2.2.2.1) (l76++([rowK encTTest (TTest.mk (y80.2.2.2.2.2.2.1) (y80.2.2.2.2.2.2.2.1) (y80.2.2.2.2.2.2.2.2.1) (y80.2.2.2.2.2.2.2.2.2.1) (y80.2.2.2.2.2.2.2.2.2.2.1) (y80.2.2.2.2.2.2.2.2.2.2.2))]:List KRow)) else none
   else kk (y77.2.1) (y77.2.2.1) (y77.2.2.2.1) (y77.2.2.2.2.1) (y77.2.2.2.2.2.1) (y77.2.2.2.2.2.2) l76):
  ∀(ks:List Tr) (fuel:Nat) (n k a:Int) (t:List UInt8) (acc:List KRow),ks.length<fuel->acc.length+ks.length<=1000->(∀u,u∈ks->RdT s x one u.toT (f u) bad)->Sat s n k t (tailT w (ks.map f)++ts)->
   ∃n' k' t' a',g fuel n k t a x 0 acc=kk n' k' t' a' x 0 (acc++Tr.toKs ks)/\Sat s n' k' t' ts
 |[],fuel,n,k,a,t,acc,hf,_,_,h=>by
  obtain⟨fuel,rfl⟩:∃q,fuel=q+1:=⟨fuel - 1,by simp at hf;omega⟩
  refine⟨n,k,t,a,?_,h⟩
  rw[hg,is_no (F:=F) (a:=a) (x:=x) (show Sat s n k t ts from h) hts]
  simp[Tr.toKs]
 |u::ks,fuel,n,k,a,t,acc,hf,hl,ho,h=>by
  obtain⟨fuel,rfl⟩:∃q,fuel=q+1:=⟨fuel - 1,by simp at hf;omega⟩
  obtain⟨n1,k1,t1,a1,h1,h2⟩:=is_yes (a:=a) (x:=x) hs hF (show Sat s n k t ((1,w)::(f u++tailT w (ks.map f)++ts)) from h)
  have hb2:hdT (tailT w (ks.map f)++ts) ∉ bad:=by
   cases ks with
   |nil=>exact hb
   |cons v r=>exact hw
  obtain⟨n2,k2,t2,a2,h3,h4⟩:=ho u (by simp) n1 k1 t1 a1 _ hb2 (by rw[<-bo8];exact h2)
  obtain⟨n3,k3,t3,a3,h5,h6⟩:=rowL hw hb hts hg ks fuel n2 k2 a2 t2 (acc++[u.toK]) (by simp at hf;omega) (by simp at hl ⊢;omega) (fun v hv=>ho v (by simp[hv])) h4
  refine⟨n3,k3,t3,a3,?_,h6⟩
  rw[hg,h1]
  simp only[bn9,if_true,h3]
  rw[if_pos (by simp at hl ⊢;omega)]
  refine aa9 (aa9 (b:=g fuel n2 k2 t2 a2 x 0 (acc++[u.toK])) rfl h5) ?_
  rw[Tr.toKs_map,Tr.toKs_map]
  simp
end
end Go.Proofs.YtppfkkkifdbnaaaGreatDoor
namespace Go.Proofs.YtppfkkkifdbnaaaGreatDoor
open Go Go.Pv
set_option maxRecDepth 100000
theorem name_ne{nm w:List UInt8}(h:nameB nm=true)(hw:w∈words):nm≠w:=by
 rintro rfl
 have:wordB nm=true:=bt9.2 ⟨nm,hw,by simp⟩
 unfold nameB at h
 split at h
 ·cases h
 ·rw[this] at h;simp at h
theorem name_okS{nm:List UInt8}(h:nameB nm=true):okS nm/\nm.length<=40:=by
 unfold nameB at h
 split at h
 ·cases h
 ·simp only[al9,decide_eq_true_eq] at h
  exact⟨by unfold okS;omega,h.1.1.1⟩
theorem val_all{s:List UInt8}(h:valB s=true):s.all valC=true:=by
 unfold valB at h;rw[al9] at h;exact h.2
abbrev comma:Tok:=(3,[44])
abbrev NR:=Int×Int×List UInt8×Int×Int×Int×Int×List UInt8×List (List UInt8)×Int×Int
section
variable{s:List UInt8}{F:Nat}{x:Int}(hs:s.length<=200000)(hF:s.length+100<F)
include hs hF
theorem named_vals{kd:Int}{wd:List UInt8}(hk:kd=2/\wd=wIs\/kd=3/\wd=wBegins){nm v:List UInt8}{l:List (List UInt8)}(hn:nameB nm=true)(hl:(v::l).length<=50){n k a:Int}{t:List UInt8}{ts:List Tok}(hb:hdT ts≠comma)
  (h:Sat s n k t ((1,nm)::(1,wd)::(tkV (v::l)++ts))):
  ∃n' k' t' a',M113 F ⟨s,n,⟨k,t,a⟩,x,0⟩=some (n',k',t',a',x,0,kd,nm,v::l,0,0)/\Sat s n' k' t' ts:=by
 have hF':s.length<F:=by omega
 obtain⟨n1,k1,t1,a1,h1,h2⟩:=name_ok (a:=a) (x:=x) hs hF' hn (name_okS hn).1 h
 obtain⟨n2,k2,t2,a2,h3,h4⟩:=is_yes (a:=a1) (x:=x) hs hF' h2
 obtain⟨n3,k3,t3,a3,h5,h6⟩:=values_ok (F:=F) (a:=a2) (x:=x) hs hF' hb (by simp at hl;omega) h4
 refine⟨n3,k3,t3,a3,?_,h6⟩
 unfold M113
 rw[h1,bn9,jn_def,jn_def,if_neg (by simp)]
 rcases hk with ⟨rfl,rfl⟩|⟨rfl,rfl⟩
 ·rw[show([105,115]:List UInt8)=wIs from rfl,h3,bn9,if_pos rfl]
  dsimp only
  rw[h5,bn9]
 ·have hno:=is_no (F:=F) (a:=a1) (x:=x) (kk:=1) (tt:=[105,115]) h2 (by intro e;have:=congrArg Prod.snd e;simp[hdT,wBegins] at this)
  rw[hno,bn9,if_neg (by simp)]
  dsimp only
  rw[show([98,101,103,105,110,115]:List UInt8)=wBegins from rfl,h3,bn9,if_pos rfl]
  dsimp only
  rw[h5,bn9]
theorem ops_L{op N:Int}(ho:1<=op/\op<=5)(hN : -1000000000000<=N/\N<=1000000000000){r:Tpolicy_reader}(hr:r.s=s){y85:(List UInt8)×Int×Int×(List UInt8)×Int×Int×Int}{y116:Nat->List UInt8}(hy:∀i,i<6->y116 i=opW i)
  {kk:Int->Int->(List UInt8)->Int->Int->Int->Option NR} {n k a:Int} {t:List UInt8} {ts:List Tok} (h:Sat s n k t ((3,opW op.toNat)::(1,Lib.itoa N)::ts)):
  ∃n' k' t' a',(∀m i:Nat,i+m=6->(i:Int)<=op->M113_L1 F r y85 y116 kk m (i:Int) n k t a x 0=some (n',k',t',a',x,0,5,y85.1,[],op,N))/\Sat s n' k' t' ts:=by
 have hF':s.length<F:=by omega
 obtain⟨n1,k1,t1,a1,h1,h2⟩:=is_yes (a:=a) (x:=x) hs hF' h
 obtain⟨n2,k2,t2,a2,h3,h4⟩:=number_ok (a:=a1) (x:=x) hs hF' (sg:=true) hN (.inl rfl) h2
 refine⟨n2,k2,t2,a2,?_,h4⟩
 intro m
 induction m with
 |zero=>intro i hi hio;omega
 |succ m ih=>
  intro i hi hio
  have ih':=ih (i+1) (by omega)
  rw[M113_L1,jn_def,if_pos ⟨by omega,by omega⟩,hr,bb9,hy i (by omega)]
  by_cases h0:i=0
  ·subst h0
   rw[if_neg (by simp)]
   exact ih' (by omega)
  ·rw[if_pos (decide_eq_true (by omega))]
   by_cases he:(i:Int)=op
   ·subst he
    rw[bb9] at h1
    rw[h1]
    simp only[bn9,if_true,h3]
   ·have hno:=is_no (F:=F) (a:=a) (x:=x) (kk:=3) (tt:=opW i) h (by
     intro e
     have e2:opW op.toNat=opW i:=congrArg Prod.snd e
     have hop:op=1\/op=2\/op=3\/op=4\/op=5:=by omega
     have hi:i=1\/i=2\/i=3\/i=4\/i=5:=by omega
     rcases hop with rfl|rfl|rfl|rfl|rfl<;>rcases hi with rfl|rfl|rfl|rfl|rfl<;>revert e2 he<;>decide)
    rw[hno]
    simp only[bn9,by9,if_false]
    exact ih' (by omega)
theorem named_num{nm:List UInt8}{op N:Int}(hn:nameB nm=true)(ho:1<=op/\op<=5)(hN : -1000000000000<=N/\N<=1000000000000){n k a:Int}{t:List UInt8}{ts:List Tok}
  (h:Sat s n k t ((1,nm)::(3,opW op.toNat)::(1,Lib.itoa N)::ts)):
  ∃n' k' t' a',M113 F ⟨s,n,⟨k,t,a⟩,x,0⟩=some (n',k',t',a',x,0,5,nm,[],op,N)/\Sat s n' k' t' ts:=by
 have hF':s.length<F:=by omega
 obtain⟨n1,k1,t1,a1,h1,h2⟩:=name_ok (a:=a) (x:=x) hs hF' hn (name_okS hn).1 h
 obtain⟨y,hy⟩:∃y,M35 F=some y:=⟨_,rfl⟩
 have hyo:∀i,i<6->y i=opW i:=by
  rw[M35] at hy
  injection hy with hy
  subst hy
  intro i hi
  have:i=0\/i=1\/i=2\/i=3\/i=4\/i=5:=by omega
  rcases this with rfl|rfl|rfl|rfl|rfl|rfl<;>rfl
 have hno:=is_no (F:=F) (a:=a1) (x:=x) (kk:=1) (tt:=[105,115]) h2 (by intro e;have:=congrArg Prod.fst e;simp[hdT] at this)
 have hno2:=is_no (F:=F) (a:=a1) (x:=x) (kk:=1) (tt:=[98,101,103,105,110,115]) h2 (by intro e;have:=congrArg Prod.fst e;simp[hdT] at this)
 unfold M113
 rw[h1,bn9,jn_def,jn_def,if_neg (by simp)]
 dsimp -zeta -proj only
 rw[hno,bn9,if_neg (by simp)]
 rw[show(Tpolicy_reader.mk _ _ _ _ _)=(Tpolicy_reader.mk s n1 (Tpolicy_token.mk k1 t1 a1) x 0) from rfl,hno2,bn9,if_neg (by simp),hy,bn9,jn_def,if_pos (by decide),show(6:Int).toNat=6 from rfl]
 obtain⟨n2,k2,t2,a2,h3,h4⟩:=ops_L hs hF (x:=x) ho hN (r:=⟨s,n,⟨k,t,a⟩,x,0⟩) rfl (y85:=(nm,n1,k1,t1,a1,x,0)) hyo (a:=a1) (kk:=fun n119 n120 s121 n122 n123 n124=>(M26 F n122 6 (Tpolicy_reader.mk s n119 (Tpolicy_token.mk n120 s121 n122) n123 n124)).bind fun y155=>some (n119,n120,s121,n122,(y155.1),(y155.2),0,nm,([]:List (List UInt8)),0,0)) h2
 have h5:=h3 6 0 rfl (by omega)
 rw[show((0:Nat):Int)=0 from rfl] at h5
 exact⟨n2,k2,t2,a2,h5,h4⟩
end
abbrev RF:=Int->Tpolicy_reader->Option TR
section
variable{s:List UInt8}{F:Nat}{x:Int}(hs:s.length<=200000)(hF:s.length+100<F)
theorem M84_B_lt{R:RF}{deep:Int}(hd:deep<60){r:Tpolicy_reader}(hz:r.bad=0):M84_B R F deep r=(M23 F 1 wT r).bind fun y57=>if (y57.1)=true then some ((y57.2.1),(y57.2.2.1),(y57.2.2.2.1),(y57.2.2.2.2.1),(y57.2.2.2.2.2.1),(y57.2.2.2.2.2.2),1,([]:List UInt8),([]:List (List UInt8)),0,0,([]:List KRow))
 else (M23 F 1 wHas (Tpolicy_reader.mk r.s (y57.2.1) (Tpolicy_token.mk (y57.2.2.1) (y57.2.2.2.1) (y57.2.2.2.2.1)) (y57.2.2.2.2.2.1) (y57.2.2.2.2.2.2))).bind fun y60=>if (y60.1)=true then (M52 F (Tpolicy_reader.mk r.s (y60.2.1) (Tpolicy_token.mk (y60.2.2.1) (y60.2.2.2.1) (y60.2.2.2.2.1)) (y60.2.2.2.2.2.1) (y60.2.2.2.2.2.2))).bind fun y63=>some ((y63.2.1),(y63.2.2.1),(y63.2.2.2.1),(y63.2.2.2.2.1),(y63.2.2.2.2.2.1),(y63.2.2.2.2.2.2),4,(y63.1),([]:List (List UInt8)),0,0,([]:List KRow))
 else (M23 F 1 wNot (Tpolicy_reader.mk r.s (y60.2.1) (Tpolicy_token.mk (y60.2.2.1) (y60.2.2.2.1) (y60.2.2.2.2.1)) (y60.2.2.2.2.2.1) (y60.2.2.2.2.2.2))).bind fun y65=>if (y65.1)=true then (R (w64 (deep+1)) (Tpolicy_reader.mk r.s (y65.2.1) (Tpolicy_token.mk (y65.2.2.1) (y65.2.2.2.1) (y65.2.2.2.2.1)) (y65.2.2.2.2.2.1) (y65.2.2.2.2.2.2))).bind fun y68=>some ((y68.1),(y68.2.1),(y68.2.2.1),(y68.2.2.2.1),(y68.2.2.2.2.1),(y68.2.2.2.2.2.1),6,([]:List UInt8),([]:List (List UInt8)),0,0,([rowK encTTest (TTest.mk (y68.2.2.2.2.2.2.1) (y68.2.2.2.2.2.2.2.1) (y68.2.2.2.2.2.2.2.2.1) (y68.2.2.2.2.2.2.2.2.2.1) (y68.2.2.2.2.2.2.2.2.2.2.1) (y68.2.2.2.2.2.2.2.2.2.2.2))]:List KRow))
 else (M23 F 3 ([40]:List UInt8) (Tpolicy_reader.mk r.s (y65.2.1) (Tpolicy_token.mk (y65.2.2.1) (y65.2.2.2.1) (y65.2.2.2.2.1)) (y65.2.2.2.2.2.1) (y65.2.2.2.2.2.2))).bind fun y70=>if (y70.1)=true then (M55 R F (w64 (deep+1)) (Tpolicy_reader.mk r.s (y70.2.1) (Tpolicy_token.mk (y70.2.2.1) (y70.2.2.2.1) (y70.2.2.2.2.1)) (y70.2.2.2.2.2.1) (y70.2.2.2.2.2.2))).bind fun y73=>(M23 F 3 ([41]:List UInt8) (Tpolicy_reader.mk r.s (y73.1) (Tpolicy_token.mk (y73.2.1) (y73.2.2.1) (y73.2.2.2.1)) (y73.2.2.2.2.1) (y73.2.2.2.2.2.1))).bind fun y75=>jn (fun(n78:Int) (n79:Int)=>some ((y75.2.1),(y75.2.2.1),(y75.2.2.2.1),(y75.2.2.2.2.1),n78,n79,(y73.2.2.2.2.2.2.1),(y73.2.2.2.2.2.2.2.1),(y73.2.2.2.2.2.2.2.2.1),(y73.2.2.2.2.2.2.2.2.2.1),(y73.2.2.2.2.2.2.2.2.2.2.1),(y73.2.2.2.2.2.2.2.2.2.2.2))) (fun k77=>if (!(y75.1))=true then (M26 F (y75.2.2.2.2.1) 6 (Tpolicy_reader.mk r.s (y75.2.1) (Tpolicy_token.mk (y75.2.2.1) (y75.2.2.2.1) (y75.2.2.2.2.1)) (y75.2.2.2.2.2.1) (y75.2.2.2.2.2.2))).bind fun y81=>k77 (y81.1) (y81.2)
 else k77 (y75.2.2.2.2.2.1) (y75.2.2.2.2.2.2))
 else (M113 F (Tpolicy_reader.mk r.s (y70.2.1) (Tpolicy_token.mk (y70.2.2.1) (y70.2.2.2.1) (y70.2.2.2.2.1)) (y70.2.2.2.2.2.1) (y70.2.2.2.2.2.2))).bind fun y83=>some ((y83.1),(y83.2.1),(y83.2.2.1),(y83.2.2.2.1),(y83.2.2.2.2.1),(y83.2.2.2.2.2.1),(y83.2.2.2.2.2.2.1),(y83.2.2.2.2.2.2.2.1),(y83.2.2.2.2.2.2.2.2.1),(y83.2.2.2.2.2.2.2.2.2.1),(y83.2.2.2.2.2.2.2.2.2.2),([]:List KRow)):=by
 obtain⟨rs,re,rn,ra,rb⟩:=r
 dsimp only at hz
 subst hz
 unfold M84_B
 rw[jn_def,if_neg (by simp;omega)]
 exact if_neg (show ¬((0:Int) != 0)=true by simp)
include hs hF
theorem B_true{R:RF}{deep:Int}(hd:deep<60):RdT s x (M84_B R F deep) (Tr.mk 1 [] [] 0 0 []).toT [(1,wT)] []:=by
 intro n k t a ts _ h
 obtain⟨n1,k1,t1,a1,h1,h2⟩:=is_yes (F:=F) (a:=a) (x:=x) hs (by omega) h
 exact⟨n1,k1,t1,a1,by rw[M84_B_lt hd rfl,h1];simp[outT,Tr.toT,Tr.toKs],h2⟩
theorem B_has{R:RF}{deep:Int}(hd:deep<60){nm:List UInt8}(hn:nameB nm=true):RdT s x (M84_B R F deep) (Tr.mk 4 nm [] 0 0 []).toT [(1,wHas),(1,nm)] []:=by
 intro n k t a ts _ h
 have hno:=is_no (F:=F) (a:=a) (x:=x) (kk:=1) (tt:=wT) h (by intro e;have:=congrArg Prod.snd e;simp[hdT,wT,wHas] at this)
 obtain⟨n1,k1,t1,a1,h1,h2⟩:=is_yes (F:=F) (a:=a) (x:=x) hs (by omega) h
 obtain⟨n2,k2,t2,a2,h3,h4⟩:=name_ok (F:=F) (a:=a1) (x:=x) hs (by omega) hn (name_okS hn).1 h2
 refine⟨n2,k2,t2,a2,?_,h4⟩
 rw[M84_B_lt hd rfl,hno,bn9,if_neg (by simp)]
 dsimp only
 rw[h1,bn9,if_pos rfl]
 dsimp only
 rw[h3]
 simp[outT,Tr.toT,Tr.toKs]
theorem B_not{R:RF}{deep:Int}(hd:0<=deep/\deep<60){c:Tr}{l:List Tok}{bad:List Tok}(hc:RdT s x (R (deep+1)) c.toT l bad):RdT s x (M84_B R F deep) (Tr.mk 6 [] [] 0 0 [c]).toT ((1,wNot)::l) bad:=by
 intro n k t a ts hb h
 have hno:=is_no (F:=F) (a:=a) (x:=x) (kk:=1) (tt:=wT) h (by intro e;have:=congrArg Prod.snd e;simp[hdT,wT,wNot] at this)
 have hno2:=is_no (F:=F) (a:=a) (x:=x) (kk:=1) (tt:=wHas) h (by intro e;have:=congrArg Prod.snd e;simp[hdT,wHas,wNot] at this)
 obtain⟨n1,k1,t1,a1,h1,h2⟩:=is_yes (F:=F) (a:=a) (x:=x) hs (by omega) h
 obtain⟨n2,k2,t2,a2,h3,h4⟩:=hc n1 k1 t1 a1 ts hb h2
 refine⟨n2,k2,t2,a2,?_,h4⟩
 rw[M84_B_lt hd.2 rfl,hno,bn9,if_neg (by simp)]
 dsimp only
 rw[hno2,bn9,if_neg (by simp)]
 dsimp only
 rw[h1,bn9,if_pos rfl,w64_id (by omega) (by omega)]
 dsimp only
 rw[h3,bn9]
 rfl
theorem B_par{R:RF}{deep:Int}(hd:0<=deep/\deep<60){c:Tr}{l:List Tok}{bad:List Tok}(hbad:(3,[41]) ∉ bad)(hc:RdT s x (M55 R F (deep+1)) c.toT l bad):RdT s x (M84_B R F deep) c.toT ((3,[40])::(l++[(3,[41])])) []:=by
 intro n k t a ts hb h
 have hno:=fun w=>is_no (F:=F) (a:=a) (x:=x) (kk:=1) (tt:=w) h (by intro e;have:=congrArg Prod.fst e;simp[hdT] at this)
 obtain⟨n1,k1,t1,a1,h1,h2⟩:=is_yes (F:=F) (a:=a) (x:=x) hs (by omega) h
 obtain⟨n2,k2,t2,a2,h3,h4⟩:=hc n1 k1 t1 a1 ((3,[41])::ts) hbad (by simpa using h2)
 obtain⟨n3,k3,t3,a3,h5,h6⟩:=is_yes (F:=F) (a:=a2) (x:=x) hs (by omega) h4
 refine⟨n3,k3,t3,a3,?_,h6⟩
 rw[M84_B_lt hd.2 rfl,hno,bn9,if_neg (by simp)]
 dsimp only
 rw[hno,bn9,if_neg (by simp)]
 dsimp only
 rw[hno,bn9,if_neg (by simp)]
 dsimp only
 rw[h1,bn9,if_pos rfl,w64_id (by omega) (by omega)]
 dsimp only
 rw[h3,bn9]
 dsimp only[outT]
 rw[h5,bn9,jn_def,if_neg (by simp)]
omit hs hF in
theorem B_named{R:RF}{deep:Int}(hd:deep<60){nm:List UInt8}(hn:nameB nm=true){T:Tr}{l:List Tok}{bad:List Tok}(hT:T.toT.Kids=[])
  (hc:∀n k t a ts,hdT ts ∉ bad->Sat s n k t ((1,nm)::(l++ts))->∃n' k' t' a',M113 F ⟨s,n,⟨k,t,a⟩,x,0⟩=some (n',k',t',a',x,0,T.toT.Kind,T.toT.Name,T.toT.Texts,T.toT.Op,T.toT.N)/\Sat s n' k' t' ts):
  RdT s x (M84_B R F deep) T.toT ((1,nm)::l) bad:=by
 intro n k t a ts hb h
 have hno:=fun(w:List UInt8) (hw:w∈words)=>is_no (F:=F) (a:=a) (x:=x) (kk:=1) (tt:=w) h (by intro e;exact name_ne hn hw (congrArg Prod.snd e))
 have hno3:=is_no (F:=F) (a:=a) (x:=x) (kk:=3) (tt:=[40]) h (by intro e;have:=congrArg Prod.fst e;simp[hdT] at this)
 obtain⟨n1,k1,t1,a1,h1,h2⟩:=hc n k t a ts hb h
 refine⟨n1,k1,t1,a1,?_,h2⟩
 rw[M84_B_lt hd rfl,hno wT (by decide),bn9,if_neg (by simp)]
 dsimp only
 rw[hno wHas (by decide),bn9,if_neg (by simp)]
 dsimp only
 rw[hno wNot (by decide),bn9,if_neg (by simp)]
 dsimp only
 rw[hno3,bn9,if_neg (by simp)]
 dsimp only
 rw[h1,bn9]
 dsimp only[outT]
 rw[hT]
omit hs hF in
theorem RdT.mono{f g:Tpolicy_reader->Option TR}{T:TTest}{l:List Tok}{bad bad':List Tok}(h:RdT s x f T l bad)(hb:∀t,t∈bad->t∈bad')(hf:∀r,g r=f r):RdT s x g T l bad':=by
 intro n k t a ts h1 h2
 obtain⟨n',k',t',a',h3,h4⟩:=h n k t a ts (fun h=>h1 (hb _ h)) h2
 exact⟨n',k',t',a',by rw[hf];exact h3,h4⟩
omit hs hF in
theorem eta11{o:Option TR}:(o.bind fun y17=>some ((y17.1),(y17.2.1),(y17.2.2.1),(y17.2.2.2.1),(y17.2.2.2.2.1),(y17.2.2.2.2.2.1),(y17.2.2.2.2.2.2.1),(y17.2.2.2.2.2.2.2.1),(y17.2.2.2.2.2.2.2.2.1),(y17.2.2.2.2.2.2.2.2.2.1),(y17.2.2.2.2.2.2.2.2.2.2.1),(y17.2.2.2.2.2.2.2.2.2.2.2)))=o:=by
 cases o<;>rfl
omit hs hF in
theorem one7{R:RF}{deep:Int}{T:TTest}{l:List Tok}{bad:List Tok}(h:RdT s x (R deep) T l bad):RdT s x (M82 R F deep) T l ((1,wAnd)::bad):=by
 intro n k t a ts h1 h2
 rw[am8,not_or] at h1
 obtain⟨n',k',t',a',h3,h4⟩:=h n k t a ts h1.2 h2
 refine⟨n',k',t',a',?_,h4⟩
 obtain⟨m,_,_,e1,e2,_⟩:=h4
 rw[M82,eta11,M81_1,M83,eta11,h3,bn9]
 rw[if_neg (by simp[outT])]
 by_cases hk:k'=1
 ·have:t'≠wAnd:=fun e=>h1.1 (by rw[<-e,<-hk,e1,e2])
  rw[if_neg (by simp[hk,outT]),if_pos (by simpa[wAnd,outT] using this)]
 ·rw[if_pos (by simpa[outT] using hk)]
omit hs hF in
theorem one8{R:RF}{deep:Int}{T:TTest}{l:List Tok}{bad:List Tok}(h:RdT s x (M82 R F deep) T l bad):RdT s x (M55 R F deep) T l ((1,wOr)::bad):=by
 intro n k t a ts h1 h2
 rw[am8,not_or] at h1
 obtain⟨n',k',t',a',h3,h4⟩:=h n k t a ts h1.2 h2
 refine⟨n',k',t',a',?_,h4⟩
 obtain⟨m,_,_,e1,e2,_⟩:=h4
 rw[M55,eta11,M81,h3,bn9]
 rw[if_neg (by simp[outT])]
 by_cases hk:k'=1
 ·have:t'≠wOr:=fun e=>h1.1 (by rw[<-e,<-hk,e1,e2])
  rw[if_neg (by simp[hk,outT]),if_pos (by simpa[wOr,outT] using this)]
 ·rw[if_pos (by simpa[outT] using hk)]
theorem row7{R:RF}{deep:Int}{c d:Tr}{ks:List Tr}{f:Tr->List Tok}{bad:List Tok}(hw:(1,wAnd) ∉ bad)(hk:ks.length<=60)(h:∀u,u∈c::d::ks->RdT s x (R deep) u.toT (f u) bad):
  RdT s x (M82 R F deep) (Tr.mk 7 [] [] 0 0 (c::d::ks)).toT (joinT wAnd ((c::d::ks).map f)) ((1,wAnd)::bad):=by
 intro n k t a ts h1 h2
 rw[am8,not_or] at h1
 obtain⟨n1,k1,t1,a1,h3,h4⟩:=h c (by simp) n k t a (tailT wAnd ((d::ks).map f)++ts) hw (by rw[<-bo8];exact h2)
 have e1:k1=1/\t1=wAnd:=by
  obtain⟨m,_,_,e1,e2,_⟩:=h4
  exact⟨e1,e2⟩
 obtain⟨n2,k2,t2,a2,h5,h6⟩:=rowL (F:=F) (x:=x) hs (by omega) (one:=M83 R F deep) hw (f:=f) h1.2 h1.1
  (kk:=fun(n56:Int) (n57:Int) (s58:List UInt8) (n59:Int) (n60:Int) (n61:Int) (l62:List KRow)=>some (n56,n57,s58,n59,n60,n61,7,([]:List UInt8),([]:List (List UInt8)),0,0,l62))
  (g:=M81_1_L1 R F wAnd ⟨s,n,⟨k,t,a⟩,x,0⟩ deep (fun(n56:Int) (n57:Int) (s58:List UInt8) (n59:Int) (n60:Int) (n61:Int) (l62:List KRow)=>some (n56,n57,s58,n59,n60,n61,7,([]:List UInt8),([]:List (List UInt8)),0,0,l62)))
  (fun q n70 n71 s72 n73 n74 n75 l76=>by rw[M81_1_L1]) (d::ks) F n1 k1 a1 t1 [c.toK] (by simp;omega) (by simp;omega) (fun u hu=>(h u (bm8 _ hu)).mono (fun _ h=>h) fun r=>eta11) h4
 refine⟨n2,k2,t2,a2,?_,h6⟩
 rw[M82,eta11,M81_1,M83,eta11,h3,bn9]
 rw[e1.1,e1.2] at h5
 rw[if_neg (by simp[outT]),if_neg (by simp[outT,e1.1]),if_neg (by simp[outT,e1.2,wAnd]),jn_def]
 dsimp only[outT]
 rw[e1.1,e1.2]
 refine aa9 h5 ?_
 simp[outT,Tr.toT,Tr.toKs_map]
theorem row8{R:RF}{deep:Int}{c d:Tr}{ks:List Tr}{f:Tr->List Tok}{bad:List Tok}(hw:(1,wOr) ∉ bad)(hk:ks.length<=60)(h:∀u,u∈c::d::ks->RdT s x (M82 R F deep) u.toT (f u) bad):
  RdT s x (M55 R F deep) (Tr.mk 8 [] [] 0 0 (c::d::ks)).toT (joinT wOr ((c::d::ks).map f)) ((1,wOr)::bad):=by
 intro n k t a ts h1 h2
 rw[am8,not_or] at h1
 obtain⟨n1,k1,t1,a1,h3,h4⟩:=h c (by simp) n k t a (tailT wOr ((d::ks).map f)++ts) hw (by rw[<-bo8];exact h2)
 have e1:k1=1/\t1=wOr:=by
  obtain⟨m,_,_,e1,e2,_⟩:=h4
  exact⟨e1,e2⟩
 obtain⟨n2,k2,t2,a2,h5,h6⟩:=rowL (F:=F) (x:=x) hs (by omega) (one:=M82 R F deep) hw (f:=f) h1.2 h1.1
  (kk:=fun(n56:Int) (n57:Int) (s58:List UInt8) (n59:Int) (n60:Int) (n61:Int) (l62:List KRow)=>some (n56,n57,s58,n59,n60,n61,8,([]:List UInt8),([]:List (List UInt8)),0,0,l62))
  (g:=M81_L1 R F wOr ⟨s,n,⟨k,t,a⟩,x,0⟩ deep (fun(n56:Int) (n57:Int) (s58:List UInt8) (n59:Int) (n60:Int) (n61:Int) (l62:List KRow)=>some (n56,n57,s58,n59,n60,n61,8,([]:List UInt8),([]:List (List UInt8)),0,0,l62)))
  (fun q n70 n71 s72 n73 n74 n75 l76=>by rw[M81_L1]) (d::ks) F n1 k1 a1 t1 [c.toK] (by simp;omega) (by simp;omega) (fun u hu=>h u (bm8 _ hu)) h4
 refine⟨n2,k2,t2,a2,?_,h6⟩
 rw[M55,eta11,M81,h3,bn9]
 rw[e1.1,e1.2] at h5
 rw[if_neg (by simp[outT]),if_neg (by simp[outT,e1.1]),if_neg (by simp[outT,e1.2,wOr]),jn_def]
 dsimp only[outT]
 rw[e1.1,e1.2]
 refine aa9 h5 ?_
 simp[outT,Tr.toT,Tr.toKs_map]
end
abbrev cAnd:Tok:=(1,wAnd)
abbrev cOr:Tok:=(1,wOr)
structure Reads(s:List UInt8)(x:Int)(t:Tr)(F deep:Nat):Prop where
 atom:t.kd<=6->RdT s x (M84 F deep) t.toT t.tk [comma]
 part:deep+3*t.dep<=60->RdT s x (M84 F deep) t.toT (inn 6 t.kd t.tk) [comma]
 and':t.kd<=7->RdT s x (M82 (M84 F) F deep) t.toT t.tk [cAnd,comma]
 ands:deep+3*t.dep<=60->RdT s x (M82 (M84 F) F deep) t.toT (inn 8 t.kd t.tk) [cAnd,comma]
 any:RdT s x (M55 (M84 F) F deep) t.toT t.tk [cOr,cAnd,comma]
theorem inn_le{k a:Int}{l:List Tok}(h:a<=6):inn k a l=l:=by
 unfold inn parB
 rw[beq_false_of_ne (show a≠7 by omega),beq_false_of_ne (show a≠8 by omega)]
 rfl
theorem inn_7{a:Int}{l:List Tok}:inn 7 a l=inn 6 a l:=by
 unfold inn parB
 by_cases h7:a=7
 ·subst h7;rfl
 ·by_cases h8:a=8
  ·subst h8;rfl
  ·rw[beq_false_of_ne h7,beq_false_of_ne h8];rfl
theorem reads_of{s:List UInt8}{x:Int}(hs:s.length<=200000){t:Tr}
  (h1:t.kd<=6->∀F deep:Nat,deep+3*t.dep<=62->s.length+170<F+deep->RdT s x (M84 F deep) t.toT t.tk [comma])
  (h2:t.kd=7->∀F deep:Nat,deep+3*t.dep<=62->s.length+170<F+deep->RdT s x (M82 (M84 F) F deep) t.toT t.tk [cAnd,comma])
  (h3:t.kd=8->∀F deep:Nat,deep+3*t.dep<=62->s.length+170<F+deep->RdT s x (M55 (M84 F) F deep) t.toT t.tk [cOr,cAnd,comma])
  (hk:t.kd<=8):∀F deep:Nat,deep+3*t.dep<=62->s.length+170<F+deep->Reads s x t F deep:=by
 have hand:t.kd<=7->∀F deep:Nat,deep+3*t.dep<=62->s.length+170<F+deep->RdT s x (M82 (M84 F) F deep) t.toT t.tk [cAnd,comma]:=by
  intro h F deep g1 g2
  by_cases h6:t.kd<=6
  ·exact one7 (h1 h6 F deep g1 g2)
  ·exact h2 (by omega) F deep g1 g2
 have hany:∀F deep:Nat,deep+3*t.dep<=62->s.length+170<F+deep->RdT s x (M55 (M84 F) F deep) t.toT t.tk [cOr,cAnd,comma]:=by
  intro F deep g1 g2
  by_cases h7:t.kd<=7
  ·exact one8 (hand h7 F deep g1 g2)
  ·exact h3 (by omega) F deep g1 g2
 have hpart:∀F deep:Nat,deep+3*t.dep<=60->s.length+170<F+deep->RdT s x (M84 F deep) t.toT (inn 6 t.kd t.tk) [comma]:=by
  intro F deep g1 g2
  by_cases h6:t.kd<=6
  ·rw[inn_le h6];exact h1 h6 F deep (by omega) g2
  ·have:inn 6 t.kd t.tk=(3,[40])::(t.tk++[(3,[41])]):=by
    have:t.kd=7\/t.kd=8:=by omega
    rcases this with e|e<;>rw[e]<;>rfl
   have hdp:=dep_pos t
   rw[this]
   obtain⟨G,rfl⟩:∃G,F=G+1:=⟨F - 1,by omega⟩
   refine RdT.mono (f:=M84_B (M84 G) G deep) (bad:=[]) (B_par (F:=G) hs (by omega) (by omega) (bad:=[cOr,cAnd,comma]) (by decide) ?_) (by simp) (fun r=>rfl)
   exact hany G (deep+1) (by omega) (by omega)
 intro F deep g1 g2
 refine⟨fun h=>h1 h F deep g1 g2,fun h=>hpart F deep h g2,fun h=>hand h F deep g1 g2,fun h=>?_,hany F deep g1 g2⟩
 by_cases h7:t.kd<=7
 ·have:inn 8 t.kd t.tk=t.tk:=by
   by_cases h6:t.kd<=6
   ·exact inn_le h6
   ·rw[show t.kd=7 by omega];rfl
  rw[this];exact hand h7 F deep g1 g2
 ·have:inn 8 t.kd t.tk=inn 6 t.kd t.tk:=by rw[show t.kd=8 by omega];rfl
  rw[this];exact one7 (hpart F deep h g2)
theorem dep_kid{ks:List Tr}{t:Tr}(h:t∈ks):t.dep<=Tr.deps ks:=by
 induction ks with
 |nil=>simp at h
 |cons u r ih=>
  rw[Tr.deps]
  rcases am8.1 h with rfl|h
  ·omega
  ·have:=ih h;omega
theorem reads{s:List UInt8}{x:Int}(hs:s.length<=200000){t:Tr}(h:Gd t):t.cnt<=60->∀F deep:Nat,deep+3*t.dep<=62->s.length+170<F+deep->Reads s x t F deep:=by
 induction h with
 |tru=>
  intro hc
  refine reads_of hs (fun _ F deep g1 g2=>?_) (fun h=>by simp[Tr.kd] at h) (fun h=>by simp[Tr.kd] at h) (by simp[Tr.kd])
  obtain⟨G,rfl⟩:∃G,F=G+1:=⟨F - 1,by omega⟩
  rw[Tr.dep] at g1
  exact RdT.mono (f:=M84_B (M84 G) G deep) (bad:=[]) (by rw[Tr.tk_mk];exact B_true (F:=G) hs (by omega) (by omega)) (by simp) (fun r=>rfl)
 | @is a nm v l ha hn hv hl=>
  intro hc
  have hk:(Tr.mk a nm (v::l) 0 0 []).kd<=6:=by show a<=6;omega
  refine reads_of hs (fun _ F deep g1 g2=>?_) (fun h=>by simp[Tr.kd] at h;omega) (fun h=>by simp[Tr.kd] at h;omega) (by omega)
  obtain⟨G,rfl⟩:∃G,F=G+1:=⟨F - 1,by omega⟩
  rw[Tr.dep] at g1
  refine RdT.mono (f:=M84_B (M84 G) G deep) (bad:=[comma]) ?_ (by simp) (fun r=>rfl)
  have hT:(Tr.mk a nm (v::l) 0 0 []).toT.Kids=[]:=by rw[Tr.toT,Tr.toKs]
  rcases ha with rfl|rfl
  ·rw[Tr.tk_mk,if_neg (by decide),if_pos rfl]
   refine B_named (by omega) hn hT (fun n k t a ts hb h=>?_)
   have:=named_vals (F:=G) (a:=a) (x:=x) hs (by omega) (.inl ⟨rfl,rfl⟩) hn hl (by simpa using hb) h
   rw[Tr.toT];exact this
  ·rw[Tr.tk_mk,if_neg (by decide),if_neg (by decide),if_pos rfl]
   refine B_named (by omega) hn hT (fun n k t a ts hb h=>?_)
   have:=named_vals (F:=G) (a:=a) (x:=x) hs (by omega) (.inr ⟨rfl,rfl⟩) hn hl (by simpa using hb) h
   rw[Tr.toT];exact this
 | @has nm hn=>
  intro hc
  refine reads_of hs (fun _ F deep g1 g2=>?_) (fun h=>by simp[Tr.kd] at h) (fun h=>by simp[Tr.kd] at h) (by simp[Tr.kd])
  obtain⟨G,rfl⟩:∃G,F=G+1:=⟨F - 1,by omega⟩
  rw[Tr.dep] at g1
  exact RdT.mono (f:=M84_B (M84 G) G deep) (bad:=[]) (by rw[Tr.tk_mk];exact B_has (F:=G) hs (by omega) (by omega) hn) (by simp) (fun r=>rfl)
 | @num nm op n hn ho hN=>
  intro hc
  refine reads_of hs (fun _ F deep g1 g2=>?_) (fun h=>by simp[Tr.kd] at h) (fun h=>by simp[Tr.kd] at h) (by simp[Tr.kd])
  obtain⟨G,rfl⟩:∃G,F=G+1:=⟨F - 1,by omega⟩
  rw[Tr.dep] at g1
  refine RdT.mono (f:=M84_B (M84 G) G deep) (bad:=[comma]) ?_ (by simp) (fun r=>rfl)
  rw[Tr.tk_mk,if_neg (by decide),if_neg (by decide),if_neg (by decide),if_neg (by decide),if_pos rfl]
  refine B_named (by omega) hn (by rw[Tr.toT,Tr.toKs]) (fun n' k t a ts hb h=>?_)
  have:=named_num (F:=G) (a:=a) (x:=x) hs (by omega) hn ho hN h
  rw[Tr.toT];exact this
 | @not t h ih=>
  intro hc
  rw[Tr.cnt] at hc
  have hct:t.cnt<=60:=by have:=Tr.cnt_mem (ks:=[t]) (t:=t) (by simp);omega
  have ih:=ih hct
  refine reads_of hs (fun _ F deep g1 g2=>?_) (fun h=>by simp[Tr.kd] at h) (fun h=>by simp[Tr.kd] at h) (by simp[Tr.kd])
  obtain⟨G,rfl⟩:∃G,F=G+1:=⟨F - 1,by omega⟩
  rw[Tr.dep] at g1
  have hd:=dep_kid (ks:=[t]) (t:=t) (by simp)
  refine RdT.mono (f:=M84_B (M84 G) G deep) (bad:=[comma]) ?_ (by simp) (fun r=>rfl)
  rw[Tr.tk_mk,if_neg (by decide),if_neg (by decide),if_neg (by decide),if_neg (by decide),if_neg (by decide),if_pos rfl,Tr.tks,Tr.tks,joinT,tailT,aa8]
  exact B_not (F:=G) hs (by omega) (by omega) ((ih G (deep+1) (by omega) (by omega)).part (by omega))
 | @row a c d ks ha h ih=>
  intro hc
  rw[Tr.cnt] at hc
  have hl:=len_cnts (c::d::ks)
  simp only[bl8] at hl
  have hct:∀u,u∈c::d::ks->u.cnt<=60:=fun u hu=>by have:=Tr.cnt_mem hu;omega
  have hdt:∀u,u∈c::d::ks->u.dep<=Tr.deps (c::d::ks):=fun u hu=>dep_kid hu
  rcases ha with rfl|rfl
  ·refine reads_of hs (fun h=>by simp[Tr.kd] at h) (fun _ F deep g1 g2=>?_) (fun h=>by simp[Tr.kd] at h) (by simp[Tr.kd])
   rw[Tr.dep] at g1
   rw[Tr.tk_mk,if_neg (by decide),if_neg (by decide),if_neg (by decide),if_neg (by decide),if_neg (by decide),if_neg (by decide),if_pos rfl,Tr.tks_map]
   refine row7 (F:=F) hs (by omega) (by decide) (by omega) (fun u hu=>?_)
   have hd:=hdt u hu
   rw[inn_7]
   exact(ih u hu (hct u hu) F deep (by omega) (by omega)).part (by omega)
  ·refine reads_of hs (fun h=>by simp[Tr.kd] at h) (fun h=>by simp[Tr.kd] at h) (fun _ F deep g1 g2=>?_) (by simp[Tr.kd])
   rw[Tr.dep] at g1
   rw[Tr.tk_mk,if_neg (by decide),if_neg (by decide),if_neg (by decide),if_neg (by decide),if_neg (by decide),if_neg (by decide),if_neg (by decide),Tr.tks_map]
   refine row8 (F:=F) hs (by omega) (by decide) (by omega) (fun u hu=>?_)
   have hd:=hdt u hu
   exact(ih u hu (hct u hu) F deep (by omega) (by omega)).ands (by omega)
def wRule:List UInt8:=[114,117,108,101]
def wAbout:List UInt8:=[97,98,111,117,116]
def wWhen:List UInt8:=[119,104,101,110]
def wWaive:List UInt8:=[119,97,105,118,101]
def wFor:List UInt8:=[102,111,114]
def wFrom:List UInt8:=[102,114,111,109]
def wTo:List UInt8:=[116,111]
def wBy:List UInt8:=[98,121]
def wAs:List UInt8:=[97,115]
noncomputable def tkRule(r:TPolicyRule):List Tok:=[(1,r.Name),(1,wAbout),(1,r.About),(1,lvW r.Level.toNat),(1,wWhen)]++(trE r.When).tk
def tkWaiver(w:TWaiver):List Tok:=[(1,w.Rule),(1,wFor),(2,w.Subject),(1,wFrom),(1,Lib.itoa w.From),(1,wTo),(1,Lib.itoa w.To),(1,wBy),(1,w.Owner),(1,wAs),(1,lvW w.Level.toNat)]
noncomputable def tkRules:List TPolicyRule->List Tok
 |[]=>[]
 |r::l=>(1,wRule)::(tkRule r++tkRules l)
def tkWaivers:List TWaiver->List Tok
 |[]=>[]
 |w::l=>(1,wWaive)::(tkWaiver w++tkWaivers l)
structure GRule(r:TPolicyRule):Prop where
 name:nameB r.Name=true
 about:nameB r.About=true
 level:1<=r.Level/\r.Level<=4
 eq:r.When=(trE r.When).toT
 ok:(trE r.When).ok
 gd:Gd (trE r.When)
 cnt:(trE r.When).cnt<=60
 dep:(trE r.When).dep<=12
structure GWaiver(w:TWaiver):Prop where
 rule:nameB w.Rule=true
 subj:valB w.Subject=true
 from':0<=w.From/\w.From<=1000000
 to':0<=w.To/\w.To<=1000000
 owner:nameB w.Owner=true
 level:1<=w.Level/\w.Level<=4
section
variable{s:List UInt8}{F:Nat}{x:Int}(hs:s.length<=200000)(hF:s.length+200<F)
include hs hF
theorem rule_ok{r:TPolicyRule}(hr:GRule r){n k a:Int}{t:List UInt8}{ts:List Tok}(hts:hdT ts ∉ [cOr,cAnd,comma])(h:Sat s n k t (tkRule r++ts)):
  ∃n' k' t' a',M24 F ⟨s,n,⟨k,t,a⟩,x,0⟩=some (n',k',t',a',x,0,r.Name,r.About,r.When.Kind,r.When.Name,r.When.Texts,r.When.Op,r.When.N,r.When.Kids,r.Level)/\Sat s n' k' t' ts:=by
 have hF':s.length<F:=by omega
 obtain⟨n1,k1,t1,a1,h1,g1⟩:=name_ok (a:=a) (x:=x) hs hF' hr.name (name_okS hr.name).1 h
 obtain⟨n2,k2,t2,a2,h2,g2⟩:=must_ok (a:=a1) (x:=x) hs hF' g1
 obtain⟨n3,k3,t3,a3,h3,g3⟩:=name_ok (a:=a2) (x:=x) hs hF' hr.about (name_okS hr.about).1 g2
 obtain⟨n4,k4,t4,a4,h4,g4⟩:=level_ok (a:=a3) (x:=x) hs hF' hr.level g3
 obtain⟨n5,k5,t5,a5,h5,g5⟩:=must_ok (a:=a4) (x:=x) hs hF' g4
 obtain⟨n6,k6,t6,a6,h6,g6⟩:=(reads (x:=x) hs hr.gd hr.cnt F 0 (by have:=hr.dep;omega) (by omega)).any n5 k5 t5 a5 ts hts g5
 refine⟨n6,k6,t6,a6,?_,g6⟩
 unfold M24
 rw[h1,bn9]
 dsimp only
 rw[show([97,98,111,117,116]:List UInt8)=wAbout from rfl,h2,bn9]
 dsimp only
 rw[h3,bn9]
 dsimp only
 rw[h4,bn9]
 dsimp only
 rw[show([119,104,101,110]:List UInt8)=wWhen from rfl,h5,bn9]
 dsimp only
 rw[show((0:Nat):Int)=0 from rfl] at h6
 rw[h6,bn9]
 dsimp only[outT]
 rw[<-hr.eq]
theorem waiver_ok{w:TWaiver}(hw:GWaiver w){n k a:Int}{t:List UInt8}{ts:List Tok}(h:Sat s n k t (tkWaiver w++ts)):
  ∃n' k' t' a',M25 F ⟨s,n,⟨k,t,a⟩,x,0⟩=some (n',k',t',a',x,0,w.Rule,w.Subject,w.From,w.To,w.Owner,w.Level)/\Sat s n' k' t' ts:=by
 have hF':s.length<F:=by omega
 obtain⟨n1,k1,t1,a1,h1,g1⟩:=name_ok (a:=a) (x:=x) hs hF' hw.rule (name_okS hw.rule).1 h
 obtain⟨n2,k2,t2,a2,h2,g2⟩:=must_ok (a:=a1) (x:=x) hs hF' g1
 obtain⟨n3,k3,t3,a3,h3,g3⟩:=value_ok (a:=a2) (x:=x) hs hF' g2
 obtain⟨n4,k4,t4,a4,h4,g4⟩:=must_ok (a:=a3) (x:=x) hs hF' g3
 obtain⟨n5,k5,t5,a5,h5,g5⟩:=number_ok (a:=a4) (x:=x) hs hF' (sg:=false) (by have:=hw.from';omega) (.inr hw.from'.1) g4
 obtain⟨n6,k6,t6,a6,h6,g6⟩:=must_ok (a:=a5) (x:=x) hs hF' g5
 obtain⟨n7,k7,t7,a7,h7,g7⟩:=number_ok (a:=a6) (x:=x) hs hF' (sg:=false) (by have:=hw.to';omega) (.inr hw.to'.1) g6
 obtain⟨n8,k8,t8,a8,h8,g8⟩:=must_ok (a:=a7) (x:=x) hs hF' g7
 obtain⟨n9,k9,t9,a9,h9,g9⟩:=name_ok (a:=a8) (x:=x) hs hF' hw.owner (name_okS hw.owner).1 g8
 obtain⟨n10,k10,t10,a10,h10,g10⟩:=must_ok (a:=a9) (x:=x) hs hF' g9
 obtain⟨n11,k11,t11,a11,h11,g11⟩:=level_ok (a:=a10) (x:=x) hs hF' hw.level g10
 refine⟨n11,k11,t11,a11,?_,g11⟩
 unfold M25
 rw[h1,bn9]
 dsimp only
 rw[show([102,111,114]:List UInt8)=wFor from rfl,h2,bn9]
 dsimp only
 rw[h3,bn9]
 dsimp only
 rw[show([102,114,111,109]:List UInt8)=wFrom from rfl,h4,bn9]
 dsimp only
 rw[h5,bn9]
 dsimp only
 rw[show([116,111]:List UInt8)=wTo from rfl,h6,bn9]
 dsimp only
 rw[h7,bn9]
 dsimp only
 rw[show([98,121]:List UInt8)=wBy from rfl,h8,bn9]
 dsimp only
 rw[h9,bn9]
 dsimp only
 rw[show([97,115]:List UInt8)=wAs from rfl,h10,bn9]
 dsimp only
 rw[h11,bn9]
omit hs hF in
theorem hd_rules{l:List TPolicyRule}{ts:List Tok}(h:hdT ts ∉ [cOr,cAnd,comma]):hdT (tkRules l++ts) ∉ [cOr,cAnd,comma]:=by
 cases l with
 |nil=>exact h
 |cons r l=>show((1,wRule):Tok) ∉ _;decide
omit hs hF in
theorem hd_waivers{l:List TWaiver}:hdT (tkWaivers l) ∉ [cOr,cAnd,comma]/\hdT (tkWaivers l)≠(1,wRule):=by
 cases l with
 |nil=>constructor<;>decide
 |cons r l=>show((1,wWaive):Tok) ∉ _/\((1,wWaive):Tok)≠_;constructor<;>decide
theorem rules_ok{kk:Int->Int->(List UInt8)->Int->Int->Int->(List TPolicyRule)->Option (TPolicy×Int×Int)}{ts:List Tok}(hts:hdT ts ∉ [cOr,cAnd,comma])(hts2:hdT ts≠(1,wRule)):
  ∀(l:List TPolicyRule) (fuel:Nat) (n k a:Int) (t:List UInt8) (acc:List TPolicyRule),l.length<fuel->acc.length+l.length<=1000->(∀r,r∈l->GRule r)->Sat s n k t (tkRules l++ts)->
   ∃n' k' t' a',M7_L1 F s kk fuel n k t a x 0 acc=kk n' k' t' a' x 0 (acc++l)/\Sat s n' k' t' ts
 |[],fuel,n,k,a,t,acc,hf,_,_,h=>by
  obtain⟨fuel,rfl⟩:∃q,fuel=q+1:=⟨fuel - 1,by simp at hf;omega⟩
  refine⟨n,k,t,a,?_,h⟩
  have hno:=is_no (F:=F) (a:=a) (x:=x) (show Sat s n k t ts from h) hts2
  rw[M7_L1,show([114,117,108,101]:List UInt8)=wRule from rfl,hno,bn9,if_neg (by simp),aa8]
 |r::l,fuel,n,k,a,t,acc,hf,hl,ho,h=>by
  obtain⟨fuel,rfl⟩:∃q,fuel=q+1:=⟨fuel - 1,by simp at hf;omega⟩
  obtain⟨n1,k1,t1,a1,h1,g1⟩:=is_yes (F:=F) (a:=a) (x:=x) hs (by omega) (show Sat s n k t ((1,wRule)::((tkRule r++tkRules l)++ts)) from h)
  obtain⟨n2,k2,t2,a2,h2,g2⟩:=rule_ok (x:=x) (a:=a1) hs hF (ho r (by simp)) (ts:=tkRules l++ts) (hd_rules hts) (by rw[<-bo8];exact g1)
  obtain⟨n3,k3,t3,a3,h3,g3⟩:=rules_ok (kk:=kk) hts hts2 l fuel n2 k2 a2 t2 (acc++[r]) (by simp at hf;omega) (by simp at hl ⊢;omega) (fun u hu=>ho u (by simp[hu])) g2
  refine⟨n3,k3,t3,a3,?_,g3⟩
  rw[M7_L1,show([114,117,108,101]:List UInt8)=wRule from rfl,h1,bn9,if_pos rfl]
  dsimp only
  rw[h2,bn9]
  dsimp only
  rw[if_pos (by simp at hl ⊢;omega)]
  refine aa9 (aa9 (b:=M7_L1 F s kk fuel n2 k2 t2 a2 x 0 (acc++[r])) rfl h3) ?_
  simp
theorem waivers_ok{kk:Int->Int->(List UInt8)->Int->Int->Int->(List TWaiver)->Option (TPolicy×Int×Int)} :
  ∀(l:List TWaiver) (fuel:Nat) (n k a:Int) (t:List UInt8) (acc:List TWaiver),l.length<fuel->acc.length+l.length<=1000->(∀r,r∈l->GWaiver r)->Sat s n k t (tkWaivers l)->
   ∃n' k' t' a',M7_L2 F s kk fuel n k t a x 0 acc=kk n' k' t' a' x 0 (acc++l)/\Sat s n' k' t' []
 |[],fuel,n,k,a,t,acc,hf,_,_,h=>by
  obtain⟨fuel,rfl⟩:∃q,fuel=q+1:=⟨fuel - 1,by simp at hf;omega⟩
  refine⟨n,k,t,a,?_,h⟩
  have hno:=is_no (F:=F) (a:=a) (x:=x) (kk:=1) (tt:=wWaive) (show Sat s n k t [] from h) (by decide)
  rw[M7_L2,show([119,97,105,118,101]:List UInt8)=wWaive from rfl,hno,bn9,if_neg (by simp),aa8]
 |r::l,fuel,n,k,a,t,acc,hf,hl,ho,h=>by
  obtain⟨fuel,rfl⟩:∃q,fuel=q+1:=⟨fuel - 1,by simp at hf;omega⟩
  obtain⟨n1,k1,t1,a1,h1,g1⟩:=is_yes (F:=F) (a:=a) (x:=x) hs (by omega) (show Sat s n k t ((1,wWaive)::(tkWaiver r++tkWaivers l)) from h)
  obtain⟨n2,k2,t2,a2,h2,g2⟩:=waiver_ok (x:=x) (a:=a1) hs hF (ho r (by simp)) g1
  obtain⟨n3,k3,t3,a3,h3,g3⟩:=waivers_ok (kk:=kk) l fuel n2 k2 a2 t2 (acc++[r]) (by simp at hf;omega) (by simp at hl ⊢;omega) (fun u hu=>ho u (by simp[hu])) g2
  refine⟨n3,k3,t3,a3,?_,g3⟩
  rw[M7_L2,show([119,97,105,118,101]:List UInt8)=wWaive from rfl,h1,bn9,if_pos rfl]
  dsimp only
  rw[h2,bn9]
  dsimp only
  rw[if_pos (by simp at hl ⊢;omega)]
  refine aa9 (aa9 (b:=M7_L2 F s kk fuel n2 k2 t2 a2 x 0 (acc++[r])) rfl h3) ?_
  simp
end
theorem read_ok{s:List UInt8}{F:Nat}(hs:s.length<=200000)(hF:s.length+1200<F){p:TPolicy}(hr:∀r,r∈p.Rules->GRule r)(hw:∀w,w∈p.Waivers->GWaiver w)(h1:p.Rules.length<=100)(h2:p.Waivers.length<=200)
  (h9:M9 F p=some 0) (h:Rds s (tkRules p.Rules++tkWaivers p.Waivers)):M7 F s=some (p,0,0):=by
 obtain⟨n1,k1,t1,a1,e1,g1⟩:=nx (F:=F) (now:=⟨0,[],0⟩) (x:=0) (z:=0) (m:=0) hs (by omega) (af8 _) (show Rds (s.drop 0) _ from h)
 have hd:=hd_waivers (l:=p.Waivers)
 unfold M7
 rw[if_neg (by simp;omega)]
 rw[show((0:Nat):Int)=0 from rfl] at e1
 rw[e1,bn9,jn_def]
 dsimp only
 generalize hk:(fun(n6:Int) (n7:Int) (s8:List UInt8) (n9:Int) (n10:Int) (n11:Int) (l12:List TPolicyRule)=>_)=kk
 obtain⟨n2,k2,t2,a2,e2,g2⟩:=rules_ok (F:=F) (x:=0) hs (by omega) (kk:=kk) hd.1 hd.2 p.Rules F n1 k1 a1 t1 [] (by omega) (by simp;omega) hr g1
 rw[e2,<-hk]
 dsimp only
 rw[jn_def]
 generalize hk2:(fun(n34:Int) (n35:Int) (s36:List UInt8) (n37:Int) (n38:Int) (n39:Int) (l40:List TWaiver)=>_)=kk2
 obtain⟨n3,k3,t3,a3,e3,g3⟩:=waivers_ok (F:=F) (x:=0) hs (by omega) (kk:=kk2) p.Waivers F n2 k2 a2 t2 [] (by omega) (by simp;omega) hw g2
 rw[e3,<-hk2]
 dsimp only
 have hk3:k3=0:=by obtain⟨m,_,_,e,_⟩:=g3;exact e
 rw[jn_def,hk3,if_neg (by simp)]
 dsimp only
 rw[if_neg (by simp),ab9,ab9,show(TPolicy.mk p.Rules p.Waivers)=p from rfl,h9,bn9,if_neg (by simp)]
end Go.Proofs.YtppfkkkifdbnaaaGreatDoor
