/- Part of the proof. -/
import Derived.Test.YtelmfadihfcgnaaGreatDoorFD7SN
set_option linter.unusedSimpArgs false
set_option linter.unusedVariables false
namespace Go.Proofs.YtelmfadihfcgnaaGreatDoor
open Go Go.Pv
set_option maxRecDepth 100000
theorem GX:∀{l:List aC} {seen:List B8} {r:aC},Bj seen l=0->r∈l->1<=r.Level/\r.Level<=4
 |x::l,seen,r,h,hm=>by
  rw[Bj] at h;split at h
  ·cases h
  ·split at h
   ·cases h
   ·split at h
    ·cases h
    ·split at h
     ·split at h
      ·cases h
      ·rename_i hb;rcases aq9.1 hm with e|hm
       ·grind
       ·exact GX h hm
     grind
theorem Mm{p:aw}(h:vP p=0):Bj [] p.Rules=0:=by
 grind [vP]
theorem Dg(v:bj->Fd):∀(l:List (Tr×Int)),(∀q,q∈l->1<=q.2/\q.2<=4)->1<=sR v l/\sR v l<=4
 |[],_=>by rw[sR];omega
 |q::r,h=>by
  have:=Dg v r fun u hu=>h u (by simp[hu])
  grind [sR]
theorem CP{p:aw}(h0:vP p=0)(k:bj)(v:bj->Fd):1<=sR v (gB (la p k))/\sR v (gB (la p k))<=4:=by
 refine Dg v _ fun q hq=>?_;obtain⟨x,hx,e⟩:=bb9.1 hq;rw[<-e];exact GX (Mm h0) (aw9 (gI x hx))
def FO(p q:aw)(k:bj)(i j:Int):Prop:=∃v:bj->Fd,(∀n,zT (v n))/\sR v (gB (la p k))=i/\sR v (gB (la q k))=j
section
variable{p q:aw}(hp:ce p)(hq:ce q)(h0:vP p=0)(h1:vP q=0){F:Nat}(hF:(iS p+iS q)*30000+1000000000000<=F)(k:bj)
include hp hq h0 h1 hF
theorem HI:((Fw F (Tr.toKs (ir (la p k))++Tr.toKs (ir (la q k)))).bind fun y22=>Pg F y22)=some (!jI (sS p q k)):=by
 have hla:=kb h0 k;have hlb:=kb h1 k;have ha:(ir (la p k)).length=(la p k).length:=by simp[ir]
 have hb:(ir (la q k)).length=(la q k).length:=by simp[ir]
 have ht:∀t,t∈ir (la p k)++ir (la q k)->t.ok/\t.gd/\t.cnt<=60/\t.fu<=iS p+iS q:=fun t h=>by
  rcases bu9.1 h with h|h
  ·have:=Bw hp h0 gI t h
   grind
  ·have:=Bw hq h1 gI t h
   grind
 have hl:(ir (la p k)++ir (la q k)).length<=200:=by rw[be9];omega
 have hc:=sY 60 _ fun t h=>(ht t h).2.2.1;have hf:=yk (iS p+iS q) _ fun t h=>(ht t h).2.2.2;have hf2:=bc9 (iS p+iS q) hl
 have hlv:(gq (ir (la p k)++ir (la q k))).lvs=sS p q k:=by
  rw[tX,List.flatMap_append];unfold ir sS vn
  simp_all[List.flatMap_map]
 grind [Fw,pM,Tr.toKs_map,Pf,xK,eH,yj,uE,tY,yl]
theorem dN(hf:jI (sS p q k)=true)(i j:Int):∃f r,((JL F p (gE (la p k)) i).bind fun y38=>(JL F q (gE (la q k)) j).bind fun y40=>(Fw F ([c8 ag y38,c8 ag y40]:List aR)).bind fun y42=>Pe F y42 k)=some (f,r)/\(r=true<->FO p q k i j):=by
 obtain⟨a1,a2,a3,a4⟩:=H7 hp h0 k i;obtain⟨b1,b2,b3,b4⟩:=H7 hq h1 k j;have hgl:=tY hp hq h0 h1 k
 have ht:∀t,t∈[Ao (la p k) i,Ao (la q k) j]->t.ok/\t.gd:=fun t h=>by
  grind
 have hsub:∀l,l∈(gq [Ao (la p k) i,Ao (la q k) j]).lvs->l∈sS p q k:=fun l h=>by
  rw[tX] at h;obtain⟨t,ht,hx⟩:=ac8.1 h;rcases aq9.1 ht with e|ht
  ·rw[e] at hx;exact cd9 _ (Dm hx)
  ·rw[bi9.1 ht] at hx;exact List.mem_append_right _ (Dm hx)
 obtain⟨f,r,e,hr⟩:=Pd (gq [Ao (la p k) i,Ao (la q k) j]) (xK (fun t h=>(ht t h).1) (by rw[eH];simp)) (yj fun t h=>(ht t h).2) (by grind [uE,Tr.cnts]) (sm:=sS p q k) ⟨hsub,hgl.1,by have:=hgl.2;omega⟩ ⟨_,hgl,hf,hsub⟩ k F (by grind [yl,Tr.fus]);refine⟨f,r,?_,?_⟩
 ·rw[I9 hp h0 F (by omega),bt9,I9 hq h1 F (by omega),bt9];unfold Fw;rw[bt9,<-e,pM];rfl
 simp_all[JN,FO,qL,Tr.allA,KD]
theorem xi(hf:jI (sS p q k)=true)(i:Int)(kk:Option (aW×Bool×Int)):∀(m n:Nat),n+m=5->∀fuel,m<fuel->
  ((∃j:Int,(n:Int)<=j/\j<=4/\i≠j/\FO p q k i j)->∃f,lT F p q k (gE (la p k)) (gE (la q k)) i kk fuel (n:Int)=some (f,true,0))/\
  ((¬∃j:Int,(n:Int)<=j/\j<=4/\i≠j/\FO p q k i j)->lT F p q k (gE (la p k)) (gE (la q k)) i kk fuel (n:Int)=kk)
 |0,n,hn,fuel,hfu=>by
  obtain⟨fuel,rfl⟩:∃g,fuel=g+1:=⟨fuel - 1,by omega⟩;rw[lT,if_neg (by simp;omega)]
  grind
 |m+1,n,hn,fuel,hfu=>by
  obtain⟨fuel,rfl⟩:∃g,fuel=g+1:=⟨fuel - 1,by omega⟩;obtain⟨ih1,ih2⟩:=xi hf i kk m (n+1) (by omega) fuel (by omega);rw[show((n+1:Nat):Int)=(n:Int)+1 from rfl] at ih1 ih2
  have hstep:¬(i≠(n:Int)/\FO p q k i n)->((∃j:Int,(n:Int)<=j/\j<=4/\i≠j/\FO p q k i j)<->∃j:Int,(n:Int)+1<=j/\j<=4/\i≠j/\FO p q k i j):=fun hno=>by
   grind
  rw[lT,if_pos (decide_eq_true (by omega)),az,cA (by omega) (by omega)];by_cases hi:i=(n:Int)
  ·grind
  ·rw[if_neg (by grind)];obtain⟨f,r,e,hr⟩:=dN hp hq h0 h1 hF k hf i n
   have step:∀(G:aW×Bool->Option (aW×Bool×Int)),((JL F p (gE (la p k)) i).bind fun y38=>(JL F q (gE (la q k)) (n:Int)).bind fun y40=>(Fw F ([c8 ag y38,c8 ag y40]:List aR)).bind fun y42=>(Pe F y42 k).bind G)=G (f,r):=fun G=>by
    have:=congrArg (fun o=>o.bind G) e
    grind
   rw[step]
   grind
theorem xj(hf:jI (sS p q k)=true)(kk:Option (aW×Bool×Int)):∀(m n:Nat),n+m=5->∀fuel,m<fuel->
  ((∃i j:Int,(n:Int)<=i/\i<=4/\1<=j/\j<=4/\i≠j/\FO p q k i j)->∃f,jz F p q k (gE (la p k)) (gE (la q k)) kk fuel (n:Int)=some (f,true,0))/\
  ((¬∃i j:Int,(n:Int)<=i/\i<=4/\1<=j/\j<=4/\i≠j/\FO p q k i j)->jz F p q k (gE (la p k)) (gE (la q k)) kk fuel (n:Int)=kk)
 |0,n,hn,fuel,hfu=>by
  obtain⟨fuel,rfl⟩:∃g,fuel=g+1:=⟨fuel - 1,by omega⟩;rw[jz,if_neg (by simp;omega)]
  grind
 |m+1,n,hn,fuel,hfu=>by
  obtain⟨fuel,rfl⟩:∃g,fuel=g+1:=⟨fuel - 1,by omega⟩;obtain⟨ih1,ih2⟩:=xj hf kk m (n+1) (by omega) fuel (by omega);rw[show((n+1:Nat):Int)=(n:Int)+1 from rfl] at ih1 ih2;rw[jz,if_pos (decide_eq_true (by omega)),az,az,cA (by omega) (by omega)];obtain⟨g1,g2⟩:=xi hp hq h0 h1 hF k hf (n:Int) (jz F p q k (gE (la p k)) (gE (la q k)) kk fuel ((n:Int)+1)) 4 1 rfl F (by omega);rw[show((1:Nat):Int)=1 from rfl] at g1 g2;by_cases hx:∃j:Int,(1:Int)<=j/\j<=4/\(n:Int)≠j/\FO p q k n j
  ·grind
  ·rw[g2 hx]
   grind
theorem CB(hk:pc k)(hkn:cO k=true):
  (jI (sS p q k)=false/\FM F p q k=some (⟨[],[],[],[]⟩,false,3)) ∨
  (jI (sS p q k)=true/\(¬JN fun v=>JJ v (gB (la p k)) (gB (la q k)))/\FM F p q k=some (⟨[],[],[],[]⟩,false,0)) ∨
  (jI (sS p q k)=true/\(JN fun v=>JJ v (gB (la p k)) (gB (la q k)))/\∃f,FM F p q k=some (f,true,0)):=by
 have hla:=kb h0 k;have hlb:=kb h1 k;have ha:(ir (la p k)).length=(la p k).length:=by simp[ir]
 have hb:(ir (la q k)).length=(la q k).length:=by simp[ir]
 have hm:=HI hp hq h0 h1 hF k
 have step:∀(G:Bool->Option (aW×Bool×Int)),((Fw F (Tr.toKs (ir (la p k))++Tr.toKs (ir (la q k)))).bind fun y22=>(Pg F y22).bind G)=G (!jI (sS p q k)):=fun G=>by
  have:=congrArg (fun o=>o.bind G) hm
  grind
 have hex:(JN fun v=>JJ v (gB (la p k)) (gB (la q k)))<->∃i j:Int,((1:Nat):Int)<=i/\i<=4/\1<=j/\j<=4/\i≠j/\FO p q k i j:=by
  unfold JN JJ FO;constructor
  ·rintro⟨v,hv,h⟩
   have r1:=CP h0 k v;have r2:=CP h1 k v;exact⟨_,_,by omega,r1.2,r2.1,r2.2,by grind,v,hv,rfl,rfl⟩
  ·grind
 have e0:FM F p q k=if (!jI (sS p q k))=true then some (⟨[],[],[],[]⟩,false,3) else jz F p q k (gE (la p k)) (gE (la q k)) (some (⟨[],[],[],[]⟩,false,0)) F 1:=by
  unfold FM;rw[pv p hp F (by omega),h0,bt9,if_neg (by decide),pv q hq F (by omega),h1,bt9,if_neg (by decide),rE F k hk,hkn,bt9,if_neg (by decide),Jd F p k (ld h0).1,bt9,Jd F q k (ld h1).1,bt9];rw[show sM k p.Rules 0=la p k from rfl,show sM k q.Rules 0=la q k from rfl,Jc hp h0 F gI (by omega),bt9,Jc hq h1 F gI (by omega),bt9,if_pos (by grind [Tr.toKs_len]),step];rfl
 rw[e0];cases hf:jI (sS p q k) with
 |false=>grind
 |true=>
  right
  obtain⟨g1,g2⟩:=xj hp hq h0 h1 hF k hf (some (⟨[],[],[],[]⟩,false,0)) 4 1 rfl F (by omega)<;>grind
end
theorem Gn{a:List bu}:∀{l:List bu} {n:Nat},Eg a l n=0->∀x,x∈l->je x.Value=true
 |y::l,n,h,x,hx=>by
  rw[Eg] at h;split at h
  ·cases h
  ·split at h
   ·cases h
   ·rename_i hv;split at h
    ·cases h
    ·rcases aq9.1 hx with e|hx
     ·subst e;simpa using hv
     ·exact Gn h x hx
theorem Hx{a:List aL}:∀{l:List aL} {n:Nat},FL a l n=0->∀x,x∈l->pQ x.N=false
 |y::l,n,h,x,hx=>by
  rw[FL] at h;split at h
  ·cases h
  ·split at h
   ·cases h
   ·rename_i hv;split at h
    ·cases h
    ·rcases aq9.1 hx with e|hx
     ·subst e;simpa using hv
     ·exact Hx h x hx
theorem MD(nm:bj):∀(l:List bu) (p:Bool×bj),(∀x,x∈l->qY x.Value)->(p.1=true->qY p.2)->(fT nm l p).1=true->qY (fT nm l p).2
 |[],p,_,hp,h=>hp h
 |x::l,p,hl,hp,h=>by
  rw[fT] at h ⊢;split at h<;>simp_all[MD]
theorem MN(nm:bj):∀(l:List aL) (p:Bool×Int),(∀x,x∈l->ka x.N)->(p.1=true->ka p.2)->(fN nm l p).1=true->ka (fN nm l p).2
 |[],p,_,hp,h=>hp h
 |x::l,p,hl,hp,h=>by
  rw[fN] at h ⊢;split at h<;>simp_all[MN]
theorem SE{f:aW}(h:vF f=0)(n:bj):zT (oU f n):=by
 unfold vF at h;split at h
 ·cases h
 ·split at h
  ·cases h
  ·split at h
   ·cases h
   ·split at h
    ·rename_i ht;split at h
     ·cases h
     ·refine⟨fun q=>MD n f.Texts _ (fun x hx=>CN (Gn ht x hx)) (fun c=>by cases c) q,fun q=>MN n f.Numbers _ (fun x hx=>?_) (fun c=>by cases c) q⟩;have:=Hx h x hx;unfold pQ at this;rw[Bool.or_eq_false_iff,decide_eq_false_iff_not,decide_eq_false_iff_not] at this;exact⟨by omega,by omega⟩
    grind
theorem Qj(f:aW)(r:aC):GW f r=((r.About==f.Kind)&&(tq r).truA (oU f)):=by
 unfold GW;rw[Ge];rfl
theorem Iz(p:aw)(hw:p.Waivers=[])(d:Int)(f:aW)(i:Int):IA p d f i=⟨i,rf p f,-1,match ji p f with|none=>1|some r=>r.Level⟩:=by
 unfold IA;cases ji p f with
 |none=>rfl
 |some r=>rw[hw];rfl
theorem Ds(f:aW):∀(rs:List aC) (n:Nat),(match rs.find? (GW f) with|none=>(1:Int)|some r=>r.Level)=sR (oU f) (gB (sM f.Kind rs n))
 |[],_=>rfl
 |r::rs,n=>by
  have ih:=Ds f rs (n+1);unfold sM at ih ⊢;rw[List.find?_cons,Qj,Es,aa8];cases h:r.About==f.Kind
  ·grind
  ·simp only[h,if_true,ah9];rw[show gB ((n,r)::(Es rs (n+1)).filter fun q=>q.2.About==f.Kind)=(tq r,r.Level)::gB ((Es rs (n+1)).filter fun q=>q.2.About==f.Kind) from rfl,sR]
   grind
theorem Ot(p:aw)(d:Int)(f:aW)(i:Int):(IA ⟨p.Rules,[]⟩ d f i).Level=sR (oU f) (gB (la p f.Kind)):=by
 rw[Iz _ rfl];exact Ds f p.Rules 0
theorem sN{p:aw}(hp:ce p)(h0:vP p=0){f:aW}(hf:okTFact' f)(F:Nat)(hF:iS p<=F):∃l e,PD F ⟨p.Rules,[]⟩ [f] 0=some (l,e)/\(e=0<->vF f=0)/\(e=0->∃x,cH l 0=some x/\x.Level=sR (oU f) (gB (la p f.Kind))):=by
 have hp0:ce ⟨p.Rules,[]⟩:=⟨hp.1,⟨by simp,by simp⟩,trivial⟩;have hfu:iS ⟨p.Rules,[]⟩<=F:=by unfold iS at hF ⊢;simp only[ao9,List.sum_nil];omega
 have hv0:vP ⟨p.Rules,[]⟩=0:=by
  unfold vP;rw[if_neg (by simp_all[ld]),if_neg (by simp),if_pos (Mm h0)];rfl
 have hvF:vD ⟨p.Rules,[]⟩ [f] 0=vF f:=by
  have hvv:JX [f]=vF f:=by
   unfold JX;rw[if_neg (by simp),PO]
   grind [PO]
  unfold vD;rw[if_pos hv0,hvv]
  grind
 rw[PC ⟨p.Rules,[]⟩ hp0 [f] ⟨by grind,by rw[eH];simp⟩ 0 F hfu];unfold SK;rw[hvF];by_cases h:vF f=0
 ·rw[if_pos h];refine⟨_,_,rfl,by simp[h],fun _=>⟨IA ⟨p.Rules,[]⟩ 0 f 0,?_,Ot p 0 f 0⟩⟩;rfl
 grind
theorem Km(p q:aw)(k:bj)(f:aW)(hp:ce p)(hq:ce q)(hk:pc k)(hf:sO f):∃F,M7 F p q k f=some true:=by
 refine⟨(iS p+iS q)*30000+1000000000000,?_⟩;generalize hFe:(iS p+iS q)*30000+1000000000000=F;have hF:(iS p+iS q)*30000+1000000000000<=F:=by omega
 have err:∀e:Int,e≠0->FN F p q k=some (⟨[],[],[],[]⟩,false,e)->FM F p q k=some (⟨[],[],[],[]⟩,false,e)->M7 F p q k f=some true:=fun e he e1 e2=>by
  unfold M7;rw[e1,bt9,e2,bt9,if_neg (by simp),if_neg (by simp),if_pos (by grind)];rfl
 by_cases h0:vP p=0;rotate_left
 ·refine err (vP p) h0 ?_ ?_
  ·unfold FN;rw[nK p hp F (by omega),bt9,if_pos (by simp[h0])]
  ·unfold FM;rw[pv p hp F (by omega),bt9,if_pos (by simp[h0])]
 by_cases h1:vP q=0;rotate_left
 ·refine err (vP q) h1 ?_ ?_
  ·unfold FN;rw[nK p hp F (by omega),bt9,if_neg (by simp[h0]),nK q hq F (by omega),bt9,if_pos (by simp[h1])]
  ·unfold FM;rw[pv p hp F (by omega),bt9,if_neg (by simp[h0]),pv q hq F (by omega),bt9,if_pos (by simp[h1])]
 cases hkn:cO k with
 |false=>
  refine err 8 (by decide) ?_ ?_
  ·unfold FN;rw[nK p hp F (by omega),bt9,if_neg (by simp[h0]),nK q hq F (by omega),bt9,if_neg (by simp[h1]),lR F k hk,hkn,bt9,if_pos (by decide)]
  ·unfold FM;rw[pv p hp F (by omega),bt9,if_neg (by simp[h0]),pv q hq F (by omega),bt9,if_neg (by simp[h1]),rE F k hk,hkn,bt9,if_pos (by decide)]
 |true=>
  have hf':=BN hf;rcases PB hp hq h0 h1 hk hkn F (by omega) with ⟨a1,a2⟩|⟨a1,a2,a3⟩|⟨a1,a2,x,a3,a4,a5,a6,a7,a8⟩
  ·grind [CB]
  ·rcases CB hp hq h0 h1 hF k hk hkn with ⟨b1,b2⟩|⟨b1,b2,b3⟩|⟨b1,b2,y,b3⟩
   ·grind
   ·obtain⟨l1,e1,c1,c2,c3⟩:=sN hp h0 (f:=⟨k,f.Subject,f.Texts,f.Numbers⟩) ⟨hk,hf'.2⟩ F (by omega);obtain⟨l2,e2,d1,d2,d3⟩:=sN hq h1 (f:=⟨k,f.Subject,f.Texts,f.Numbers⟩) ⟨hk,hf'.2⟩ F (by omega);unfold M7;rw[a3,bt9,b3,bt9,if_neg (by simp),if_neg (by simp),if_neg (by simp),az,if_pos (by simp)];dsimp only;rw[c1,bt9,d1,bt9];by_cases he:e1=0
    ·have hv:=c2.1 he;obtain⟨x1,g1,g2⟩:=c3 he;obtain⟨x2,g3,g4⟩:=d3 (d2.2 hv)
     have hl:x1.Level=x2.Level:=by
      rw[g2,g4];refine Classical.byContradiction fun hne=>a2 ⟨oU ⟨k,f.Subject,f.Texts,f.Numbers⟩,fun n=>SE hv n,?_⟩
      show(_ != _)=true
      simpa using hne
     simp_all[M2]
    simp_all[M2]
   grind
  ·rcases CB hp hq h0 h1 hF k hk hkn with ⟨b1,b2⟩|⟨b1,b2,b3⟩|⟨b1,b2,y,b3⟩
   ·grind
   ·grind
   ·obtain⟨l1,e1,c1,c2,c3⟩:=sN hp h0 a6 F (by omega);obtain⟨l2,e2,d1,d2,d3⟩:=sN hq h1 a6 F (by omega);unfold M7;rw[a3,bt9,b3,bt9,if_neg (by simp),if_neg (by simp),if_neg (by simp),az,if_neg (by simp)];dsimp only;rw[show aW.mk x.Kind x.Subject x.Texts x.Numbers=x from rfl,c1,bt9,d1,bt9];obtain⟨x1,g1,g2⟩:=c3 (c2.2 a7);obtain⟨x2,g3,g4⟩:=d3 (d2.2 a7);rw[a4] at g2 g4;have hl:(x1.Level != x2.Level)=true:=by rw[g2,g4];exact a8
    rw[if_neg (by grind),if_neg (by grind),g1,bt9,g3,bt9,hl];rfl
end Go.Proofs.YtelmfadihfcgnaaGreatDoor
namespace Go.Pv
open Go
section
variable{K:dE}{Q:cG}{S S':St}{ops:Array Oper}{rest:List Oper}{t:TT}
def tH(d:Nat)(v:V):cE->cE
 |[]=>[(d,v)]
 |(k,x)::e=>bif Nat.beq k d then (d,v)::e else (k,x)::tH d v e
def sd(d:Nat)(v:Ob):aJ->aJ
 |[]=>(match v with | .dead=>[]|v=>[(d,v)])
 |(k,x)::e=>bif Nat.beq k d then (d,v)::e else (k,x)::sd d v e
theorem DG(k d:Nat){α:Type}(a b:α):(bif Nat.beq k d then a else b)=if k=d then a else b:=by
 simp_all
theorem mR(d:Nat)(v:V):∀(e:cE) (t:Nat),get (tH d v e) t=get ((d,v)::e) t
 |[],t=>rfl
 |(k,x)::e,t=>by
  simp only[tH,DG];split
  ·simp_all[dg]
  ·rename_i h;rw[dg,mR d v e t,dg,dg,dg]
   grind
theorem oj(d:Nat)(v:Ob):∀(e:aJ) (t:Nat),ao (sd d v e) t=ao ((d,v)::e) t
 |[],t=>by
  cases v with
  |dead=>simp only[sd];rw[ar];split<;>rfl
  |_=>rfl
 |(k,x)::e,t=>by
  simp only[sd,DG];split
  ·simp_all[ar]
  ·rename_i h;rw[ar,oj d v e t,ar,ar,ar]
   grind
def Gk:cE->cE
 |(d,v)::e=>tH d v e
 |[]=>[]
def Gj:aJ->aJ
 |(d,v)::(d2,v2)::e=>sd d v (sd d2 v2 e)
 |e=>e
theorem E5(e:cE)(t:Nat):get (Gk e) t=get e t:=by
 cases e with
 |nil=>rfl
 |cons p e=>exact mR p.1 p.2 e t
theorem B2(e:aJ)(t:Nat):ao (Gj e) t=ao e t:=by
 match e with
 |[]=>rfl
 |[p]=>rfl
 |(d,v)::(d2,v2)::e=>
  show ao (sd d v (sd d2 v2 e)) t=_
  simp_all[oj,ar]
theorem B5{e:cE}{hp:aJ}{nx:Nat}:bb K ⟨e,hp,nx⟩ ⟨Gk e,Gj hp,nx⟩:=fun m β _ _ r=>⟨m,β,r.congr (E5 e) (B2 hp) rfl⟩
def Dj:Value->Value->Option Bool
 | .int k a,.int k' b=>(match decide (k=k') with|true=>some (decide (a=b))|false=>none)
 | .string a,.string b=>some (mC a==mC b)
 |_,_=>none
theorem GL{a b:ByteArray}(h:mC a=mC b):a=b:=by
 exact Value.string.inj ((hO a).symm.trans ((congrArg str h).trans (hO b)))
theorem Ai{x y:Value}{b:Bool}(h:Dj x y=some b):(x=y<->b=true):=by
 unfold Dj at h;split at h
 ·grind
 ·simp at h;subst h;constructor
  ·grind
  ·intro e;exact congrArg Value.string (GL (by grind))
 grind
def Ad(x:Value):List (Value×V)->Option (Option V)
 |[]=>some none
 |(k,v)::es=>match Dj k x with|some b=>(match b with|true=>some (some v)|false=>Ad x es)|none=>none
theorem t6{x:Value}:∀{es:List (Value×V)} {r:Option V},Ad x es=some r->jA x es r
 |[],r,h=>by simp[Ad] at h;subst h;exact .nil
 |(k,v)::es,r,h=>by
  simp only[Ad] at h;split at h
  ·rename_i b hb;have hb:=Ai hb;split at h
   ·simp at h;subst h;rw[hb.2 rfl];exact .here
   ·exact .there (fun e=>by simpa using hb.1 e) (t6 h)
  ·simp at h
def zN(x:Value)(v:V):List (Value×V)->Option (List (Value×V))
 |[]=>some [(x,v)]
 |(k,v')::es=>match Dj k x with
  |some b=>(match b with|true=>some ((x,v)::es)|false=>(match zN x v es with|some r=>some ((k,v')::r)|none=>none))
  |none=>none
theorem zM{x:Value}{v:V}:∀{es r:List (Value×V)},zN x v es=some r->kq x v es r
 |[],r,h=>by simp[zN] at h;subst h;exact .nil
 |(k,v')::es,r,h=>by
  simp only[zN] at h;split at h
  ·rename_i b hb;have hb:=Ai hb;split at h
   ·simp at h;subst h;rw[hb.2 rfl];exact .here
   ·split at h
    ·rename_i q hq;simp at h;subst h;exact .there (fun e=>by simpa using hb.1 e) (zM hq)
    ·simp at h
  ·simp at h
structure MT where
 T:Nat
 k:Nat
 e:Nat
 txt:Bool
 ik:IntKind
 z:V
def KE(txt:Bool)(ik:IntKind):Value->Prop:=fun v=>match txt with|true=>oR v|false=>QD ik v
structure MV(P:Program)(p:MT):Prop where
 h1:fq P p.T p.k p.e=true
 h2:kX P p.k (KE p.txt p.ik)
 h3:∃zv,(P.info? p.e).bind (·.zero)=some zv/\∀m,ct m p.z zv
def uY(P:Program)(l:List MT):Prop:=∀p,p∈l->MV P p
def PK:List MT->Nat->Option MT
 |[],_=>none
 |p::l,T=>bif Nat.beq p.T T then some p else PK l T
theorem BP{P:Program}:∀{l:List MT} {T:Nat} {p:MT},uY P l->PK l T=some p->MV P p/\p.T=T
 |q::l,T,p,hl,h=>by
  simp only[PK] at h;cases hb:Nat.beq q.T T with
  |true=>rw[hb] at h;simp at h;subst h;exact⟨hl _ bz9,cd8 hb⟩
  |false=>rw[hb] at h;simp at h;exact BP (fun p hp=>hl p (bs8 _ hp)) h
 |[],T,p,hl,h=>by simp[PK] at h
def wD(txt:Bool)(ik:IntKind):Value->Bool
 | .string _=>txt
 | .int k _=>(match txt with|true=>false|false=>decide (k=ik))
 |_=>false
theorem pX{txt:Bool}{ik:IntKind}{v:Value}(h:wD txt ik v=true):KE txt ik v:=by
 unfold wD at h;unfold KE;split at h
 ·subst h;exact⟨_,Y⟩
 ·split at h
  ·simp at h
  ·have h:=of_decide_eq_true h;subst h;exact⟨_,Y⟩
 grind
def IZ(txt:Bool)(ik:IntKind):List (Value×V)->Bool
 |[]=>true
 |p::l=>bif wD txt ik p.1 then IZ txt ik l else false
theorem s4{txt:Bool}{ik:IntKind}:∀{l:List (Value×V)},IZ txt ik l=true->∀p,p∈l->KE txt ik p.1
 |[],_,p,hp=>by simp at hp
 |q::l,h,p,hp=>by
  simp only[IZ] at h;cases hb:wD txt ik q.1 with
  |true=>
   rw[hb] at h;simp at h;rcases aq9.1 hp with rfl|hp
   ·exact pX hb
   ·exact s4 h p hp
  |false=>rw[hb] at h;simp at h
def Ck(e:cE)(d:Nat):Option Operand->Option Nat
 |none=>some d
 |some y=>(match eX e y with|some (.con (.int _ n))=>(match n with | .ofNat j=>some j|_=>none)|_=>none)
theorem qh{e:cE}(ha:Ag e S){d j:Nat}{x:Option Operand}(h:Ck e d x=some j):r7 K S x d j:=by
 unfold Ck at h;split at h
 ·grind
 ·split at h
  ·rename_i hv;split at h<;>grind [bd]
  grind
def NY:List (List V)->Bool
 |[]=>true
 |r::l=>bif xO r then NY l else false
theorem tT:∀{l:List (List V)},NY l=true->∀row,row∈l->xO row=true
 |[],_,r,hr=>by simp at hr
 |q::l,h,r,hr=>by
  simp only[NY] at h;cases hb:xO q with
  |true=>
   rw[hb] at h;simp at h;rcases aq9.1 hr with rfl|hr
   ·exact hb
   ·exact tT h r hr
  |false=>rw[hb] at h;simp at h
def rowsK(k:Nat):List (List V)->Bool
 |[]=>true
 |r::l=>bif gG k r then rowsK k l else false
theorem tE{k:Nat}:∀{l:List (List V)},rowsK k l=true->∀row,row∈l->row.length=k
 |[],_,r,hr=>by simp at hr
 |q::l,h,r,hr=>by
  simp only[rowsK] at h;cases hb:gG k q with
  |true=>
   rw[hb] at h;simp at h;rcases aq9.1 hr with rfl|hr
   ·exact eU hb
   ·exact tE h r hr
  |false=>rw[hb] at h;simp at h
def yv(k:Nat):Nat->List V->List (List V)
 |0,_=>[]
 |n+1,l=>l.take k::yv k n (l.drop k)
theorem rp{k:Nat}:∀(n:Nat) (l:List V),l.length=n*k->p8 (yv k n l)=l
 |0,l,h=>by simp at h;subst h;rfl
 |n+1,l,h=>by
  simp only[yv,p8];rw[rp n _ (by rw[List.length_drop,h,Nat.succ_mul];omega),cc8]
theorem uF{k:Nat}:∀(n:Nat) (l:List V),(yv k n l).length=n
 |0,l=>rfl
 |n+1,l=>by simp[yv,uF n]
def NF(t:TT)(e:cE)(hp:aJ):Op->Option (Nat×Ob)
 | .store T x y=>(match dV t T TF.qS with
  |some n=>(match eX e x with
   |some (.ptr id k i off)=>(match rj hp id with
    |some (.arr ty k2 rows)=>(match Nat.beq k k2,mK rows i with
     |true,some row=>(match eX e y with
      |some v=>(match M6 v with
       |some cs=>(match gG n cs&&AY cs&&Nat.ble (off+n) row.length with
        |true=>some (id,.arr ty k (rows.set i (row.take off++cs++row.drop (off+n))))
        |false=>none)
       |none=>none)
      |none=>none)
     |_,_=>none)
    |_=>none)
   |_=>none)
  |none=>none)
 |_=>none
theorem Kb{op:Op}{ty:TypeId}{pos:String}{after:Array Edge}{g:Option (Nat×Bool)}(ht:dm K.P t){e:cE}{hp:aJ}(ha:Ag e S)(hh:JF hp S){id:Nat}{ob:Ob}(h:NF t e hp op=some (id,ob))(hw:aT ops S ⟨none,op,ty,pos,after,g⟩ true)
  (k:aD K ops rest Q ⟨S.env,(id,ob)::S.hp,S.nx⟩):aD K ops (⟨none,op,ty,pos,after,g⟩::rest) Q S:=by
 unfold NF at h;split at h
 ·split at h
  ·rename_i n hn;split at h
   ·rename_i hx;split at h
    ·rename_i ho;split at h
     ·rename_i row hk hr;have hk:=cd8 hk;subst hk;split at h
      ·rename_i v hy;split at h
       ·rename_i cs hc;split at h
        ·rename_i hb;simp only[ao8] at hb;have hl:=eU hb.1.1;subst hl;simp at h;obtain⟨rfl,rfl⟩:=h;exact gM cs _ (Oz ht hn) hw (bd ha hx) (bd ha hy) (th hc) (ox hb.1.2) (hh _ _ ho) (fw hr) hb.2 (by simp) k
        grind
       grind
      grind
     grind
    grind
   grind
  grind
 grind
def oF(t:TT)(mt:List MT)(e:cE)(hp:aJ)(nx:Nat):Op->Option (V×aJ×Nat)
 | .indexAddr T x y=>(match dV t T TF.qSl with
  |some k=>(match eX e x with
   |some (.own id len)=>(match eX e y with
    |some (.con (.int _ n))=>(match n with
     | .ofNat j=>(match Nat.blt j len with|true=>some (.ptr id k j 0,[],0)|false=>none)
     |_=>none)
    |_=>none)
   |_=>none)
  |none=>none)
 | .build T parts=>(match dV t T TF.qArr with
  |some (_,k)=>(match dV t T TF.qZ with
   |some (_,zs)=>(match MO e parts.toList with
    |some ps=>(match jR (fun i=>some (i*k,k)) (zs.map .con) ps with|some cs=>some (.agg cs,[],0)|none=>none)
    |none=>none)
   |none=>none)
  |none=>none)
 | .index T x y=>(match eX e x with
  |some (.agg cs)=>(match eX e y with
   |some (.con (.int _ n))=>(match n with
    | .ofNat j=>(match dV t T TF.qAA with
     |some (n,k,_)=>(match Nat.blt j n&&gG (n*k) cs with|true=>some (.agg ((cs.drop (j*k)).take k),[],0)|false=>none)
     |none=>(match dV t T TF.qAC with
      |some (n,_)=>(match Nat.blt j n,mK cs j with|true,some c=>some (c,[],0)|_,_=>none)
      |none=>none))
    |_=>none)
   |_=>none)
  |_=>(match dV t T TF.qStr with
  |some _=>(match eX e x with
   |some (.con (.string b))=>(match eX e y with
    |some (.con (.int _ n))=>(match n with
     | .ofNat j=>(match mK (mC b) j with|some c=>some (.con (.int .u8 c.toNat),[],0)|none=>none)
     |_=>none)
    |_=>none)
   |_=>none)
  |none=>none))
 | .slice T x lo hi mx=>(match mx with
  |some _=>none
  |none=>(match eX e x with
   |some (.con (.string b))=>(match dV t T TF.qStr with
    |some _=>(match Ck e 0 lo with
     |some a0=>(match Ck e (mC b).length hi with
      |some b0=>(match Nat.ble a0 b0&&Nat.ble b0 (mC b).length with|true=>some (.con (str (((mC b).drop a0).take (b0 - a0))),[],0)|false=>none)
      |none=>none)
     |none=>none)
    |none=>none)
   |some (.own id n)=>(match dV t T TF.qSl with
    |some k=>(match rj hp id with
     |some (.arr ety k2 rows)=>(match Nat.beq k k2&&Nat.beq n rows.length&&NY rows with
      |true=>(match lo with
       |none=>(match Ck e n hi with
        |some b0=>(match Nat.ble b0 n with|true=>some (.own id b0,[],0)|false=>none)
        |none=>none)
       |some _=>(match Ck e 0 lo with
        |some a0=>(match Ck e n hi with
         |some b0=>(match Nat.ble a0 b0&&Nat.ble b0 n with|true=>some (.own nx (b0 - a0),[(nx,.arr ety k (rows.drop a0)),(id,.dead)],1)|false=>none)
         |none=>none)
        |none=>none))
      |false=>none)
     |_=>none)
    |none=>none)
   |_=>none))
 | .binOp bop T x y T'=>(match eX e x,eX e y with
  |some (.con (.string a)),some (.con (.string b))=>(match IJ bop (mC a) (mC b) with|some v=>some (.con v,[],0)|none=>none)
  |some v,some (.con (.slice none 0 0))=>(match dV t T TF.qSn,v with
   |some _,.own _ n=>(match n with
    |0=>none
    |_+1=>(match bop with | .eql=>some (.con (.bool false),[],0) | .neq=>some (.con (.bool true),[],0)|_=>none))
   |_,_=>none)
  |some v,some (.con (.map none))=>(match dV t T TF.qMn,BS v with
   |some _,some b=>(match bop with | .eql=>some (.con (.bool b),[],0) | .neq=>some (.con (.bool (!b)),[],0)|_=>none)
   |_,_=>none)
  |_,_=>none)
 | .makeFunc fn first caps=>(match fn,first.toList,caps.toList with
  | .method name,[x],[]=>(match eX e x with|some (.con (.iface T v))=>some (.con (.func (.method name) #[.iface T v] #[]),[],0)|_=>none)
  |_,_,_=>none)
 | .nilCheck x=>(match eX e x with
  |some (.con (.func (.method name) first caps))=>(match first.toList,caps.toList with
   |[.iface T v],[]=>(match dV t T (TF.qM name) with|some _=>some (.con (.func (.method name) #[.iface T v] #[]),[],0)|none=>none)
   |_,_=>none)
  |_=>none)
 | .makeInterface T x=>(match dV t T TF.qCn with
  |some _=>(match eX e x with
   |some v=>(match AH 8 v with|some c=>some (.con (.iface T c),[],0)|none=>none)
   |none=>none)
  |none=>none)
 | .buildSlice T n parts=>(match dV t T TF.qEl with
  |some (ety,k,_)=>(match n with
   |0=>(match parts.toList with|[]=>some (.own nx 0,[(nx,.arr ety k [])],1)|_=>none)
   |n'+1=>(match dV t ety TF.qZ with
    |some (_,zs)=>(match MO e parts.toList with
     |some ps=>(match jR (fun i=>some (i*k,k)) (((List.range ((n'+1)*k)).map fun i=>zs.getD (i % k) undef).map .con) ps with
      |some cs=>(match Nat.beq cs.length ((n'+1)*k)&&rowsK k (yv k (n'+1) cs)&&Nat.blt 0 k&&Nat.ble ((n'+1)*k) 16777216 with
       |true=>some (.own nx (n'+1),[(nx,.arr ety k (yv k (n'+1) cs))],1)
       |false=>none)
      |none=>none)
     |none=>none)
    |none=>none))
  |none=>none)
 | .makeSlice T x y=>(match dV t T TF.qEl with
  |some (ety,k,bytes)=>(match dV t ety TF.qZ with
   |some (_,zs)=>(match x,y with
    | .tmp a,.tmp b=>(match Nat.beq a b,eX e x with
     |true,some (.con (.int .i64 n))=>(match n with
      | .ofNat j=>(match Nat.ble (bytes*j) 140737488355328&&Nat.ble j 140737488355328&&Nat.blt 0 k with
       |true=>some (.own nx j,[(nx,.arr ety k (List.replicate j (zs.map .con)))],1)
       |false=>none)
      |_=>none)
     |_,_=>none)
    |_,_=>none)
   |none=>none)
  |none=>none)
 | .lookup T x y ok=>(match PK mt T with
  |some p=>(match eX e x with
   |some (.map id)=>(match rj hp id with
    |some (.map es)=>(match eX e y with
     |some (.con kv)=>(match wD p.txt p.ik kv&&IZ p.txt p.ik es with
      |true=>(match Ad kv es with
       |some r=>(match (r.getD p.z).deep with
        |false=>(match ok with
         |true=>some (.tup [r.getD p.z,.con (.bool r.isSome)],[],0)
         |false=>some (r.getD p.z,[],0))
        |true=>none)
       |none=>none)
      |false=>none)
     |_=>none)
    |_=>none)
   |_=>none)
  |none=>none)
 | .call c=>(match c.callee,c.args.toList,c.argTypes.toList with
  | .builtin .append,[x,y],[T,T']=>(match dV t T TF.qEl,dV t T' TF.qSn with
   |some (ety,k,bytes),some _=>(match Nat.blt 0 bytes&&Nat.blt 0 k with
    |true=>(match eX e x with
     |some (.own id n)=>(match rj hp id with
      |some (.arr e2 k2 rows)=>(match Nat.beq ety e2&&Nat.beq k k2&&Nat.beq rows.length n with
       |true=>(match eX e y with
        |some (.own id2 n2)=>(match rj hp id2 with
         |some (.arr _ k3 rows2)=>(match Nat.beq k3 k&&Nat.beq rows2.length n2&&NY rows2&&Nat.ble ((n+n2)*bytes) 140737488355328 with
          |true=>some (.own nx (n+n2),[(nx,.arr ety k (rows++rows2)),(id,.dead)],1)
          |false=>none)
         |_=>none)
        |some (.con (.slice none 0 0))=>(match Nat.ble (n*bytes) 140737488355328 with
         |true=>some (.own nx n,[(nx,.arr ety k rows),(id,.dead)],1)
         |false=>none)
        |_=>none)
       |false=>none)
      |_=>none)
     |_=>none)
    |false=>none)
   |_,_=>none)
  |_,_,_=>none)
 |_=>none
theorem tz{α:Type}{a:Array α}{l:List α}(h:a.toList=l):a=l.toArray:=by grind
section
variable{op:Op}{ty:TypeId}{pos:String}{after:Array Edge}{g:Option (Nat×Bool)}
theorem C8(ht:dm K.P t){mt:List MT}(hmt:uY K.P mt){d:Nat}{e:cE}{hp u:aJ}{nx q:Nat}{v:V}(ha:Ag e S)(hh:JF hp S)(hnx:S.nx=nx)(h:oF t mt e hp nx op=some (v,u,q))(hw:aT ops S ⟨some d,op,ty,pos,after,g⟩ true)(hN:Nat.blt d K.N=true)
  (k:aD K ops rest Q ⟨(d,v)::S.env,u++S.hp,S.nx+q⟩):aD K ops (⟨some d,op,ty,pos,after,g⟩::rest) Q S:=by
 subst hnx;cases op with
 |indexAddr T x y=>
  simp only[oF] at h;split at h
  ·rename_i kk hk;split at h
   ·rename_i hx;split at h
    ·rename_i hy;split at h
     ·rename_i j;split at h
      ·rename_i hb;simp only[av9,Prod.mk.injEq] at h;obtain⟨rfl,rfl,rfl⟩:=h;exact na (AM ht hk) hw (bd ha hx) (bd ha hy) (Int.natCast_nonneg j) (av8 hb) hN k
      grind
     grind
    grind
   grind
  grind
 |build T parts=>
  simp only[oF] at h;split at h
  ·rename_i hA;split at h
   ·rename_i hz;split at h
    ·rename_i ps hps;split at h
     ·rename_i cs hcs;obtain⟨z1,z2,z3⟩:=yA ht hz;simp only[av9,Prod.mk.injEq] at h;obtain⟨rfl,rfl,rfl⟩:=h;exact nf ps cs z1 (IS ht hA) z3 hw (uw ha hps) hcs hN k
     grind
    grind
   grind
  grind
 |index T x y=>
  simp only[oF] at h;split at h
  ·rename_i cs hx;split at h
   ·rename_i hy;split at h
    ·rename_i j;split at h
     ·rename_i n kk _ hT;split at h
      ·rename_i hb;simp only[ao8] at hb;simp only[av9,Prod.mk.injEq] at h;obtain⟨rfl,rfl,rfl⟩:=h;exact nc _ (Rd ht hT) hw (bd ha hx) (bd ha hy) ⟨Int.natCast_nonneg j,av8 hb.1⟩ (eU hb.2) Y hN k
      grind
     ·split at h
      ·rename_i hT;split at h
       ·rename_i c hb hc;simp only[av9,Prod.mk.injEq] at h;obtain⟨rfl,rfl,rfl⟩:=h;exact yI c (Rc ht hT) hw (bd ha hx) (bd ha hy) ⟨Int.natCast_nonneg j,av8 hb⟩ (fw hc) hN k
       grind
      grind
    grind
   grind
  ·split at h
   ·rename_i hk;split at h
    ·rename_i b hx;split at h
     ·rename_i hy;split at h
      ·rename_i j;split at h
       ·rename_i c hc;simp only[av9,Prod.mk.injEq] at h;obtain⟨rfl,rfl,rfl⟩:=h;exact rU (l:=mC b) c (yB ht hk) hw (by rw[bd ha hx,hO]) (bd ha hy) (Int.natCast_nonneg j) (fw hc) hN k
       grind
      grind
     grind
    grind
   grind
 |slice T x lo hi mx=>
  simp only[oF] at h;split at h
  ·simp at h
  ·split at h
   ·rename_i b hx;split at h
    ·rename_i hk;split at h
     ·rename_i a0 h0;split at h
      ·rename_i b0 h1;split at h
       ·rename_i hb;simp only[ao8] at hb;simp only[av9,Prod.mk.injEq] at h;obtain⟨rfl,rfl,rfl⟩:=h;have e0:=qh (K:=K) ha h0;have e1:=qh (K:=K) ha h1;exact io (l:=mC b) a0 b0 _ (yB ht hk) hw (by rw[bd ha hx,hO]) (by grind) (by grind) (av8 hb.1) (av8 hb.2) Y hN k
       grind
      grind
     grind
    grind
   ·rename_i id n hx;split at h
    ·rename_i kk hk;split at h
     ·rename_i ety k2 rows ho;split at h
      ·rename_i hb;simp only[ao8] at hb;have e1:=cd8 hb.1.1;have e2:=cd8 hb.1.2;subst e1;split at h
       ·split at h
        ·rename_i b0 h1;split at h
         ·rename_i hb2;simp only[av9,Prod.mk.injEq] at h;obtain⟨rfl,rfl,rfl⟩:=h;exact rx (AM ht hk) hw (bd ha hx) (hh _ _ ho) (Nat.le_of_eq e2) (qh ha h1) (av8 hb2) hN k
         grind
        grind
       ·split at h
        ·rename_i a0 h0;split at h
         ·rename_i b0 h1;split at h
          ·rename_i hb2;simp only[ao8] at hb2;simp only[av9,Prod.mk.injEq] at h;obtain⟨rfl,rfl,rfl⟩:=h;exact mX a0 b0 _ (AM ht hk) hw (bd ha hx) (hh _ _ ho) e2 Y (qh ha h0) (qh ha h1) (av8 hb2.1) (av8 hb2.2) Y (tT hb.2) hN k
          grind
         grind
        grind
      grind
     grind
    grind
   grind
 |binOp bop T x y T'=>
  simp only[oF] at h;split at h
  ·rename_i a b hx hy;split at h
   ·rename_i v hv;simp only[av9,Prod.mk.injEq] at h;obtain⟨rfl,rfl,rfl⟩:=h;exact ow v hw (by rw[bd ha hx,hO]) (by rw[bd ha hy,hO]) hv hN k
   grind
  ·rename_i v _ hx hy;split at h
   ·rename_i id n hk;split at h
    ·simp at h
    ·split at h
     ·simp only[av9,Prod.mk.injEq] at h;obtain⟨rfl,rfl,rfl⟩:=h;exact pk false (kV ht hk) hw (bd ha hx) (bd ha hy) Y hN (fun b hb=>by rw[hb (Nat.succ_ne_zero _)];exact k)
     ·simp only[av9,Prod.mk.injEq] at h;obtain⟨rfl,rfl,rfl⟩:=h;exact pk true (kV ht hk) hw (bd ha hx) (bd ha hy) Y hN (fun b hb=>by rw[hb (Nat.succ_ne_zero _)];exact k)
     grind
   grind
  ·rename_i v _ hx hy;split at h
   ·rename_i b hk hb;split at h
    ·simp only[av9,Prod.mk.injEq] at h;obtain⟨rfl,rfl,rfl⟩:=h;exact rW false (MR ht hk) hw (bd ha hx) hb (bd ha hy) hN k
    ·simp only[av9,Prod.mk.injEq] at h;obtain⟨rfl,rfl,rfl⟩:=h;exact rW true (MR ht hk) hw (bd ha hx) hb (bd ha hy) hN k
    grind
   grind
  grind
 |makeFunc fn first caps=>
  simp only[oF] at h;split at h
  ·rename_i name x hf1 hc1;have hf1:=fJ hf1;have hc1:=jf hc1;subst hf1 hc1;split at h
   ·rename_i hx;simp only[av9,Prod.mk.injEq] at h;obtain⟨rfl,rfl,rfl⟩:=h;exact AN hw (bd ha hx) hN k
   grind
  grind
 |nilCheck x=>
  simp only[oF] at h;split at h
  ·rename_i name first caps hx
   split at h
   ·rename_i T v hf1 hc1;have hf1:=fJ hf1;have hc1:=jf hc1;subst hf1 hc1;split at h
    ·rename_i hm;simp only[av9,Prod.mk.injEq] at h;obtain⟨rfl,rfl,rfl⟩:=h;exact yC (OA ht hm).2 hw (bd ha hx) hN k
    grind
   grind
  grind
 |makeInterface T x=>
  simp only[oF] at h;split at h
  ·rename_i hk;split at h
   ·rename_i hx;split at h
    ·rename_i hc;simp only[av9,Prod.mk.injEq] at h;obtain⟨rfl,rfl,rfl⟩:=h;exact yE (Ra ht hk) hw (bd ha hx) hc hN k
    grind
   grind
  grind
 |buildSlice T n parts=>
  simp only[oF] at h;split at h
  ·rename_i ety kk bytes hT;split at h
   ·split at h
    ·rename_i hp0;have:=tz hp0;subst this;simp only[av9,Prod.mk.injEq] at h;obtain⟨rfl,rfl,rfl⟩:=h;exact ml (mj ht hT) hw hN k
    grind
   ·rename_i n';split at h
    ·rename_i zs hz;split at h
     ·rename_i ps hps;split at h
      ·rename_i cs hcs;split at h
       ·rename_i hb;simp only[ao8] at hb;have e1:=cd8 hb.1.1.1;obtain⟨z1,z2,z3⟩:=yA ht hz;simp only[av9,Prod.mk.injEq] at h;obtain⟨rfl,rfl,rfl⟩:=h;exact ax ps _ (mj ht hT) z1 z3 hb.1.2 Y hb.2 hw (uw ha hps) (by simp_all[rp]) (uF _ _) (tE hb.1.1.2) hN k
       grind
      grind
     grind
    grind
  grind
 |makeSlice T x y=>
  simp only[oF] at h;split at h
  ·rename_i ety kk bytes hT;split at h
   ·rename_i zs hz;split at h
    ·rename_i a b;split at h
     ·rename_i n hab hx;have hab:=cd8 hab;subst hab;split at h
      ·rename_i j;split at h
       ·rename_i hb;simp only[ao8] at hb;obtain⟨z1,z2,z3⟩:=yA ht hz;simp only[av9,Prod.mk.injEq] at h;obtain⟨rfl,rfl,rfl⟩:=h;have b1:=av8 hb.1.1;have b2:=av8 hb.1.2;have c1:((bytes*j:Nat):Int)<=((140737488355328:Nat):Int):=Int.ofNat_le.2 b1;have c2:((j:Nat):Int)<=((140737488355328:Nat):Int):=Int.ofNat_le.2 b2;rw[Int.natCast_mul] at c1;exact jq _ (mj ht hT) z1 z3 hb.2 ⟨Int.natCast_nonneg j,c1,c2⟩ Y Y hw (bd ha hx) hN k
       grind
      grind
     grind
    grind
   grind
  grind
 |lookup T x y ok=>
  simp only[oF] at h;split at h
  ·rename_i p hp0;obtain⟨hm,hTe⟩:=BP hmt hp0;subst hTe;obtain⟨zv,hz1,hz2⟩:=hm.h3;split at h
   ·rename_i id hx;split at h
    ·rename_i es ho;split at h
     ·rename_i kv hy;split at h
      ·rename_i hb;simp only[ao8] at hb;split at h
       ·rename_i r hr;split at h
        ·rename_i hdp;split at h
         ·simp only[av9,Prod.mk.injEq] at h;obtain⟨rfl,rfl,rfl⟩:=h;exact sw r p.z _ hm.h1 hm.h2 hz1 hz2 hw (bd ha hx) (.own (hh _ _ ho)) (.con (bd ha hy)) (pX hb.1) (s4 hb.2) (t6 hr) Y Y hN k hdp
         ·simp only[av9,Prod.mk.injEq] at h;obtain⟨rfl,rfl,rfl⟩:=h;exact cQ r p.z _ hm.h1 hm.h2 hz1 hz2 hw (bd ha hx) (.own (hh _ _ ho)) (.con (bd ha hy)) (pX hb.1) (s4 hb.2) (t6 hr) Y hN k hdp
        grind
       grind
      grind
     grind
    grind
   grind
  grind
 |call c=>
  obtain⟨callee,args,at'⟩:=c;simp only[oF] at h;split at h
  ·rename_i x y T T' _ hargs hats;have hargs:=dZ hargs;have hats:=dZ hats;subst hargs;subst hats;split at h
   ·rename_i ety kk bytes _ hT hT';split at h
    ·rename_i hb0;simp only[ao8] at hb0;split at h
     ·rename_i id n hx;split at h
      ·rename_i rows ho;split at h
       ·rename_i hb;simp only[ao8] at hb;have e1:=cd8 hb.1.1;have e2:=cd8 hb.1.2;have e3:=cd8 hb.2;subst e1;subst e2;split at h
        ·rename_i id2 n2 hy;split at h
         ·rename_i k3 rows2 ho2;split at h
          ·rename_i hb2;simp only[ao8] at hb2;have e4:=cd8 hb2.1.1.1;have e5:=cd8 hb2.1.1.2;subst e4;simp only[av9,Prod.mk.injEq] at h;obtain⟨rfl,rfl,rfl⟩:=h
           exact ng rows2 _ (mj ht hT) (kV ht hT') hb0.1 hb0.2 hw (bd ha hx) (hh _ _ ho) e3 (bd ha hy) (.own (hh _ _ ho2) e5 (fun row hr c hc=>by
            obtain⟨j,hj⟩:=ba9 hc;exact lx (tT hb2.1.2 row hr) hj)) Y (by grind) (av8 hb2.2) hN k
          grind
         grind
        ·rename_i hy;split at h
         ·rename_i hb2;simp only[av9,Prod.mk.injEq] at h;obtain⟨rfl,rfl,rfl⟩:=h;exact ng [] _ (mj ht hT) (kV ht hT') hb0.1 hb0.2 hw (bd ha hx) (hh _ _ ho) e3 (bd ha hy) .nil (List.append_nil _) e3 (av8 hb2) hN k
         grind
        grind
       grind
      grind
     grind
    grind
   grind
  grind
 |_=>simp[oF] at h
end
def SV(t:TT)(d:Nat)(e:cE)(hp:aJ)(nx:Nat):Op->Option (cE×aJ)
 | .call c=>(match c.callee,c.args.toList,c.argTypes.toList with
  | .builtin .append,[.tmp a,y],[T,T']=>(match qE e a with
   |some (.con (.slice none 0 0))=>(match dV t T TF.qEl,dV t T' TF.qSn with
    |some (ety,k,bytes),some _=>(match Nat.blt 0 bytes&&Nat.blt 0 k with
     |true=>(match eX ((a,.own nx 0)::e) y with
      |some (.own id2 n2)=>(match rj ((nx,.arr ety k [])::hp) id2 with
       |some (.arr _ k3 rows2)=>(match Nat.beq k3 k&&Nat.beq rows2.length n2&&NY rows2&&Nat.ble (n2*bytes) 140737488355328 with
        |true=>some ([(d,.own (nx+1) n2),(a,.own nx 0)],[(nx+1,.arr ety k rows2),(nx,.dead)])
        |false=>none)
       |_=>none)
      |_=>none)
     |false=>none)
    |_,_=>none)
   |_=>none)
  |_,_,_=>none)
 |_=>none
theorem OE{op:Op}{ty:TypeId}{pos:String}{after:Array Edge}{g:Option (Nat×Bool)}(ht:dm K.P t){d:Nat}{e:cE}{hp:aJ}{nx:Nat}{ue:cE}{uh:aJ}(h:SV t d e hp nx op=some (ue,uh))(hg:g=none)(hN:Nat.blt d K.N=true)
    (k:aD K ops rest Q ⟨ue++e,uh++hp,nx+2⟩):aD K ops (⟨some d,op,ty,pos,after,g⟩::rest) Q ⟨e,hp,nx⟩:=by
  subst hg;cases op<;>simp only[SV,reduceCtorEq] at h;rename_i c;obtain⟨callee,args,at'⟩:=c;simp only at h;split at h
  · rename_i a y T T' hargs hats
    have hargs:=dZ hargs;have hats:=dZ hats;subst hargs;subst hats;split at h
    · rename_i hx
      split at h
      · rename_i ety kk bytes _ hT hT'
        split at h
        · rename_i hb0
          simp only[ao8] at hb0;split at h
          · rename_i id2 n2 hy
            split at h
            · rename_i k3 rows2 ho2
              split at h
              · rename_i hb2
                simp only[ao8] at hb2;have e4:=cd8 hb2.1.1.1;have e5:=cd8 hb2.1.1.2;subst e4;simp only[av9,Prod.mk.injEq] at h;obtain⟨rfl,rfl⟩:=h;refine aU (dl (S:=⟨e,hp,nx⟩) a ety k3 (eu hx)) ?_
                let S2:St:=⟨(a,.own nx 0)::e,(nx,.arr ety k3 [])::hp,nx+1⟩
                have hex:cv K S2 (.tmp a)=.own nx 0:=by show get ((a,.own nx 0)::e) a=_;rw[dg,if_pos rfl]
                have hho:ao S2.hp nx=.arr ety k3 []:=by show ao ((nx,.arr ety k3 [])::hp) nx=_;rw[ar,if_pos rfl]
                refine ng (S:=S2) rows2 _ (mj ht hT) (kV ht hT') hb0.1 hb0.2 rfl hex hho rfl (bd (yP (S:=S2)) hy) (.own (gk ho2) e5 (fun row hr c hc=>by
                        obtain⟨j,hj⟩:=ba9 hc;exact lx (tT hb2.1.2 row hr) hj)) (ad9 _) e5 (av8 hb2.2) hN ?_
                have gh:bb K ⟨(d,.own S2.nx n2)::S2.env,(S2.nx,.arr ety k3 rows2)::(nx,.dead)::S2.hp,S2.nx+1⟩ ⟨[(d,.own (nx+1) n2),(a,.own nx 0)]++e,[(nx+1,.arr ety k3 rows2),(nx,.dead)]++hp,nx+2⟩:=by
                  refine fun m β _ _ r=>⟨m,β,r.congr (fun _=>Y) (fun t=>?_) Y⟩
                  show ao ((nx+1,.arr ety k3 rows2)::(nx,.dead)::hp) t=ao ((nx+1,.arr ety k3 rows2)::(nx,.dead)::(nx,.arr ety k3 [])::hp) t
                  rw[ar,ar,ar,ar,ar];split
                  · rfl
                  · split<;>rfl
                exact aU gh k
              · simp at h
            · simp at h
          · simp at h
        · simp at h
      · simp at h
    · simp at h
  · simp at h
end
section
variable{K:dE}{Q:cG}{S S':St}{ops:Array Oper}{rest:List Oper}{t:TT}
def wc:cE->cE->cE
 |[],e=>e
 |(i,o)::u,e=>tH i o (wc u e)
theorem rm:∀(u e:cE) (t:Nat),get (wc u e) t=get (u++e) t
 |[],e,t=>rfl
 |(i,o)::u,e,t=>by
  show get (tH i o (wc u e)) t=get ((i,o)::(u++e)) t
  rw[mR,dg,dg,rm u e]
def rL:aJ->aJ->aJ
 |[],hp=>hp
 |(i,o)::u,hp=>sd i o (rL u hp)
theorem lB:∀(u hp:aJ) (t:Nat),ao (rL u hp) t=ao (u++hp) t
 |[],hp,t=>rfl
 |(i,o)::u,hp,t=>by
  show ao (sd i o (rL u hp)) t=ao ((i,o)::(u++hp)) t
  rw[oj,ar,ar,lB u hp]
def qs(f:V->Bool):List V->Bool
 |[]=>true
 |x::l=>bif f x then qs f l else false
def uc:Nat->V->Bool
 |0,_=>false
 |n+1,v=>(match v with
  | .con _=>true
  | .agg cs=>qs (uc n) cs
  | .tup cs=>qs (uc n) cs
  | .fn _ a b=>qs (uc n) a&&qs (uc n) b
  |_=>false)
theorem lK{f:V->Bool}:∀{l:List V},qs f l=true->∀x,x∈l->f x=true
 |[],_,x,hx=>by simp at hx
 |y::l,h,x,hx=>by
  simp only[qs] at h;cases hb:f y with
  |true=>
   rw[hb] at h;simp at h;rcases aq9.1 hx with rfl|hx
   ·exact hb
   ·exact lK h x hx
  |false=>rw[hb] at h;simp at h
theorem lA:∀{n:Nat} {v:V},uc n v=true->∀{m:bZ} {β:bw} {x:Value},bP m β v x->ct m v x
 |0,v,h=>by simp[uc] at h
 |n+1,v,h=>by
  intro hv;cases hv with
  |imm h=>exact h
  |agg hl hh=>
   simp only[uc] at h;exact .agg hl fun i c v a b=>lA (lK h c (aw9 a)) (hh i c v a b)
  |tup hl hh=>
   simp only[uc] at h;exact .tup hl fun i c v a b=>lA (lK h c (aw9 a)) (hh i c v a b)
  |fn hl hl' h1 h2=>
   simp only[uc,ao8] at h;exact .fn hl hl' (fun i c v a b=>lA (lK h.1 c (aw9 a)) (h1 i c v a b)) (fun i c v a b=>lA (lK h.2 c (aw9 a)) (h2 i c v a b))
  |_=>simp[uc] at h
def H3(v:V):Bool:=uc 12 v
theorem zZ{gl:Gl}{P:Program}{f:FuncId}{avs:List V}{v:V}{k':Nat}{hp':aJ}(h:iH gl P f avs 0 [] v k' hp')(hv:H3 v=true):ek gl P f avs v:=by
 intro m w vs himm hgl hargs
 let β:bw:=⟨fun _=>none,fun _ _=>False⟩
 refine(h m β w vs himm hgl ⟨hargs.len,fun i c v a b=>.imm (hargs.at' i c v a b)⟩ (fun id=>trivial) (fun id b cap hl=>absurd Y hl) (fun id id' b cap cap' hl=>absurd Y hl) (fun id x hl=>absurd Y hl) (fun _ _=>Y)).mono ?_
 rintro e w' ⟨x,m',β',rfl,hx,g⟩
 have hF:∀b,dQ [] β b:=fun b id hl=>absurd rfl hl;exact⟨x,m',Y,lA hv hx,g.le,g.imm,fun b hb=>(g.old b hb (hF b)).1,fun b hb=>(g.old b hb (hF b)).2,g.size,g.same⟩
def Sv:Op->List Operand
 | .slice _ x lo hi _=>x::(lo.toList++hi.toList)
 | .lookup _ x y _=>[x,y]
 | .mapUpdate _ x y z=>[x,y,z]
 | .insert _ x y z=>[x,y,z]
 | .buildSlice _ _ ps=>ps.toList.map (·.2)
 | .makeSlice _ x _=>[x]
 | .box _ x=>[x]
 | .makeFunc _ fs cs=>fs.toList++cs.toList
 | .makeInterface _ x=>[x]
 | .call c=>(match c.callee with | .invoke r _=>r::c.args.toList|_=>Sw (.call c))
 |op=>Sw op
def NO(ops:Array Oper)(o:Oper)(e:cE):Option cE:=match grd ops o (R2 (Sv o.op)) with|some l=>PI e l|none=>none
theorem Kk{o:Oper}{e re:cE}(h:NO ops o e=some re):uW e re:=by
 grind [NO,BG]
def SB(e:cE)(hp:aJ)(x:Operand)(l:aJ):Option aJ:=
 match eX e x with
 |some (.ptr id _ _ _)=>(match rj hp id with|some ob=>some ((id,ob)::l)|none=>none)
 |some (.own id _)=>(match rj hp id with|some ob=>some ((id,ob)::l)|none=>none)
 |some (.map id)=>(match rj hp id with|some ob=>some ((id,ob)::l)|none=>none)
 |some _=>some l
 |none=>none
theorem N4{e:cE}{hp l rh:aJ}{x:Operand}(hl:mz hp l)(h:SB e hp x l=some rh):mz hp rh:=by
 unfold SB at h;split at h
 ·split at h
  ·rename_i ho;simp at h;subst h;exact⟨gk ho,hl⟩
  grind
 ·split at h
  ·rename_i ho;simp at h;subst h;exact⟨gk ho,hl⟩
  grind
 ·split at h
  ·rename_i ho;simp at h;subst h;exact⟨gk ho,hl⟩
  grind
 ·grind
 grind
def QI(e:cE)(hp:aJ):List Operand->aJ->Option aJ
 |[],l=>some l
 |x::xs,l=>match SB e hp x l with|some l=>QI e hp xs l|none=>none
theorem H6{e:cE}{hp rh:aJ}:∀{xs:List Operand} {l:aJ},mz hp l->QI e hp xs l=some rh->mz hp rh
 |[],l,hl,h=>by simp_all[QI]
 |x::xs,l,hl,h=>by
  simp only[QI] at h;split at h
  ·rename_i q hq;exact H6 (N4 hl hq) h
  ·simp at h
def hrO:Op->List Operand
 | .load _ x=>[x]
 | .store _ x _=>[x]
 | .lookup _ x _ _=>[x]
 | .slice _ x _ _ _=>[x]
 | .mapUpdate _ x _ _=>[x]
 | .insert _ x _ _=>[x]
 | .call c=>(match c.callee with | .builtin .append=>c.args.toList|_=>[])
 |_=>[]
def MS(t:TT)(e:cE)(id:Nat):Op->Option (V×Ob)
 | .alloc T=>(match dV t T TF.qZ with
  |some (n,zs)=>some (.ptr id n 0 0,.arr T n [zs.map .con])
  |none=>none)
 | .box T x=>(match dV t T TF.qS with
  |some n=>(match eX e x with
   |some v=>(match M6 v with
    |some cs=>(match gG n cs&&AY cs with|true=>some (.ptr id n 0 0,.arr T n [cs])|false=>none)
    |none=>none)
   |none=>none)
  |none=>none)
 | .makeMap _ r=>(match r with|none=>some (.map id,.map [])|some _=>none)
 | .buildSlice T n parts=>(match dV t T TF.qEl with
  |some (ety,k,_)=>(match n with
   |0=>(match parts.toList with|[]=>some (.own id 0,.arr ety k [])|_=>none)
   |n'+1=>(match dV t ety TF.qZ with
    |some (_,zs)=>(match MO e parts.toList with
     |some ps=>(match jR (fun i=>some (i*k,k)) (((List.range ((n'+1)*k)).map fun i=>zs.getD (i % k) undef).map .con) ps with
      |some cs=>(match Nat.beq cs.length ((n'+1)*k)&&rowsK k (yv k (n'+1) cs)&&Nat.blt 0 k&&Nat.ble ((n'+1)*k) 16777216 with
       |true=>some (.own id (n'+1),.arr ety k (yv k (n'+1) cs))
       |false=>none)
      |none=>none)
     |none=>none)
    |none=>none))
  |none=>none)
 | .makeSlice T x y=>(match dV t T TF.qEl with
  |some (ety,k,bytes)=>(match dV t ety TF.qZ with
   |some (_,zs)=>(match x,y with
    | .tmp a,.tmp b=>(match Nat.beq a b,eX e x with
     |true,some (.con (.int .i64 n))=>(match n with
      | .ofNat j=>(match Nat.ble (bytes*j) 140737488355328&&Nat.ble j 140737488355328&&Nat.blt 0 k with
       |true=>some (.own id j,.arr ety k (List.replicate j (zs.map .con)))
       |false=>none)
      |_=>none)
     |_,_=>none)
    |_,_=>none)
   |none=>none)
  |none=>none)
 |_=>none
theorem OF{op:Op}{ty:TypeId}{pos:String}{after:Array Edge}{g:Option (Nat×Bool)}(ht:dm K.P t){d id nx:Nat}{e:cE}{v:V}{ob:Ob}(ha:Ag e S)(h:MS t e id op=some (v,ob))(hid:(Nat.blt id nx&&Nat.ble K.pins id)=true)(hnx:S.nx=nx)(hres:ao S.hp id=.res)
  (hw:aT ops S ⟨some d,op,ty,pos,after,g⟩ true) (hN:Nat.blt d K.N=true) (k:aD K ops rest Q ⟨(d,v)::S.env,(id,ob)::S.hp,S.nx⟩):aD K ops (⟨some d,op,ty,pos,after,g⟩::rest) Q S:=by
 cases op with
 |alloc T=>
  simp only[MS] at h;split at h
  ·rename_i n zs hz;obtain⟨z1,z2,z3⟩:=yA ht hz<;>grind [eJ]
  grind
 |box T x=>
  simp only[MS] at h;split at h
  ·split at h
   ·rename_i hv;split at h
    ·rename_i cs hc;split at h
     ·rename_i hb;simp only[ao8] at hb;have hl:=eU hb.1;subst hl;simp only[av9,Prod.mk.injEq] at h;obtain⟨rfl,rfl⟩:=h;exact rX id hid hnx hres cs hw (bd ha hv) (th hc) (ox hb.2) hN k
     grind
    grind
   grind
  grind
 |makeMap T r=>
  simp only[MS] at h
  grind [su]
 |buildSlice T n parts=>
  simp only[MS] at h;split at h
  ·rename_i ety kk bytes hT;split at h
   ·split at h
    ·rename_i hp0;have:=tz hp0;subst this;simp only[av9,Prod.mk.injEq] at h;obtain⟨rfl,rfl⟩:=h;exact pm id hid hnx hres (mj ht hT) hw hN k
    grind
   ·rename_i n';split at h
    ·rename_i zs hz;split at h
     ·rename_i ps hps;split at h
      ·rename_i cs hcs;split at h
       ·rename_i hb;simp only[ao8] at hb;have e1:=cd8 hb.1.1.1;obtain⟨z1,z2,z3⟩:=yA ht hz;simp only[av9,Prod.mk.injEq] at h;obtain⟨rfl,rfl⟩:=h;exact pn id hid hnx hres ps _ (mj ht hT) z1 hw z3 hb.1.2 Y hb.2 (uw ha hps) (by simp_all[rp]) (uF _ _) (tE hb.1.1.2) hN k
       grind
      grind
     grind
    grind
  grind
 |makeSlice T x y=>
  simp only[MS] at h;split at h
  ·rename_i ety kk bytes hT;split at h
   ·rename_i zs hz;split at h
    ·rename_i a b;split at h
     ·rename_i n hab hx;have hab:=cd8 hab;subst hab;split at h
      ·rename_i j;split at h
       ·rename_i hb;simp only[ao8] at hb;obtain⟨z1,z2,z3⟩:=yA ht hz;simp only[av9,Prod.mk.injEq] at h;obtain⟨rfl,rfl⟩:=h;have b1:=av8 hb.1.1;have b2:=av8 hb.1.2;have c1:((bytes*j:Nat):Int)<=((140737488355328:Nat):Int):=Int.ofNat_le.2 b1;have c2:((j:Nat):Int)<=((140737488355328:Nat):Int):=Int.ofNat_le.2 b2;rw[Int.natCast_mul] at c1;exact ql id hid hnx hres _ (mj ht hT) z1 z3 hb.2 ⟨Int.natCast_nonneg j,c1,c2⟩ Y Y hw (bd ha hx) hN k
       grind
      grind
     grind
    grind
   grind
  grind
 |_=>simp[MS] at h
def RW(mt:List MT)(e:cE)(hp:aJ)(T:TypeId)(x y z:Operand):Option (Nat×Ob):=
 match PK mt T with
 |some p=>(match eX e x with
  |some (.map id)=>(match rj hp id with
   |some (.map es)=>(match eX e y with
    |some (.con kv)=>(match wD p.txt p.ik kv&&IZ p.txt p.ik es with
     |true=>(match eX e z with
      |some v=>(match zN kv v es with|some es'=>some (id,.map es')|none=>none)
      |none=>none)
     |false=>none)
    |_=>none)
   |_=>none)
  |_=>none)
 |none=>none
theorem FW{op:Op}{T:TypeId}{x y z:Operand}(hop:op=.mapUpdate T x y z\/op=.insert T x y z){ty:TypeId}{pos:String}{after:Array Edge}{g:Option (Nat×Bool)}{mt:List MT}(hmt:uY K.P mt){e:cE}{hp:aJ}{id:Nat}{ob:Ob}(ha:Ag e S)(hh:JF hp S)(h:RW mt e hp T x y z=some (id,ob))(hw:aT ops S ⟨none,op,ty,pos,after,g⟩ true)
  (k:aD K ops rest Q ⟨S.env,(id,ob)::S.hp,S.nx⟩):aD K ops (⟨none,op,ty,pos,after,g⟩::rest) Q S:=by
 unfold RW at h;split at h
 ·rename_i p hp0;obtain⟨hm,hTe⟩:=BP hmt hp0;subst hTe;split at h
  ·rename_i id hx;split at h
   ·rename_i es ho;split at h
    ·rename_i kv hy;split at h
     ·rename_i hb;simp only[ao8] at hb;split at h
      ·rename_i v hz;split at h
       ·rename_i es' hp';simp only[av9,Prod.mk.injEq] at h;obtain⟨rfl,rfl⟩:=h;exact rT hop es' hm.h1 hm.h2 hw (bd ha hx) (hh _ _ ho) (.con (bd ha hy)) (pX hb.1) (s4 hb.2) (bd ha hz) (zM hp') k
       grind
      grind
     grind
    grind
   grind
  grind
 grind
def RV(t:TT)(mt:List MT)(e:cE)(hp:aJ)(op:Op):Option (Nat×Ob):=
 match op with
 | .mapUpdate T x y z=>RW mt e hp T x y z
 | .insert T x y z=>RW mt e hp T x y z
 |op=>NF t e hp op
theorem FV{op:Op}{ty:TypeId}{pos:String}{after:Array Edge}{g:Option (Nat×Bool)}(ht:dm K.P t){mt:List MT}(hmt:uY K.P mt){e:cE}{hp:aJ}{id:Nat}{ob:Ob}(ha:Ag e S)(hh:JF hp S)(h:RV t mt e hp op=some (id,ob))(hw:aT ops S ⟨none,op,ty,pos,after,g⟩ true)
  (k:aD K ops rest Q ⟨S.env,(id,ob)::S.hp,S.nx⟩):aD K ops (⟨none,op,ty,pos,after,g⟩::rest) Q S:=by
 unfold RV at h;split at h
 ·grind [FW]
 ·exact FW (.inr Y) hmt ha hh h hw k
 grind [Kb]
theorem IE{e:cE}(ha:Ag e S){o:Oper}{f:Nat}{avs:List V}(h:Ov e o.op=some (f,avs))(hf:cP K.P f=true):
  ∀m β w a,cw K m β w a S->∃vs:Array Value,(execOp a.eval o).run K.P w=.ok (.enter f vs) w/\mn m β avs vs:=by
 obtain⟨dst,op,ty',pos,after,g⟩:=o;cases op<;>simp_all[Ov];rename_i c;obtain⟨callee,args,at'⟩:=c;simp only at h;split at h
 ·rename_i x;split at h
  ·rename_i first caps hx
   split at h
   ·split at h
    ·rename_i vs hv;split at h
     ·rename_i q hq;simp only[av9,Prod.mk.injEq] at h;obtain⟨rfl,rfl⟩:=h;have hq:=kg hq;have hv:=ux (K:=K) ha hv;exact tV hf (bd ha hx) (by grind)
     grind
    grind
   grind
  grind
 grind
def Q5(t:TT)(e:cE)(op:Op):Option (Nat×List V):=match Ov e op with|some r=>some r|none=>SN t e op
theorem qg(ht:dm K.P t){e:cE}(ha:Ag e S){o:Oper}{f:Nat}{avs:List V}(h:Q5 t e o.op=some (f,avs))(hf:cP K.P f=true):
  ∀m β w a,cw K m β w a S->∃vs:Array Value,(execOp a.eval o).run K.P w=.ok (.enter f vs) w/\mn m β avs vs:=by
 grind [Q5,IE,ID]
end
end Go.Pv
