/- Part of the proof. -/
import Derived.Test.YtelmfadihfcgnaaGreatDoorFD7RB
set_option linter.unusedSimpArgs false
set_option linter.unusedVariables false
namespace Go.Proofs.YtelmfadihfcgnaaGreatDoor
open Go Go.Pv
set_option maxRecDepth 100000
theorem pY{ls:List Lf}{j:Nat}(h:j<ls.length):cH (ls.map Lf.row) (j:Int)=some ls[j].row:=by
 simp_all[bU]
def uT(ls:List Lf):Bool:=ls.any fun l=>l.k==2||l.k==3
def uN(ls:List Lf):Bool:=ls.any fun l=>l.k==5
def uH(ls:List Lf):Bool:=ls.any fun l=>l.k==4
theorem I2(F:Nat)(ls:List Lf):OQ F (ls.map Lf.row)=some (uT ls,uN ls,uH ls):=by
 unfold OQ;rw[az,be8,show(((ls.length:Nat):Int)).toNat=ls.length by omega]
 have hloop:∀m j:Nat,j+m=ls.length->∀a b c:Bool,nj F (ls.map Lf.row) (fun(b3:Bool) (b4:Bool) (b5:Bool)=>some (b3,b4,b5)) m (j:Int) a b c=some (a||uT (ls.drop j),b||uN (ls.drop j),c||uH (ls.drop j)):=by
  intro m
  induction m with
  |zero=>
   simp_all[nj,uT,uN,uH]
  |succ m ihm=>
   intro j hj a b c;have hn:j<ls.length:=by omega
   have hstep:=fun a b c=>ihm (j+1) (by omega) a b c;rw[show((j+1:Nat):Int)=(j:Int)+1 from rfl] at hstep;rw[nj,az,bo8 hn];simp only[pY hn,Lf.dec,bt9,hstep];unfold uT uN uH;simp only[bz8];have e:ls[j].t.Kind=ls[j].k:=rfl
   grind
 have:=hloop ls.length 0 (by omega) false false false
 grind
theorem vZ:∀(ls:List Lf) (all:sF) (n:bj),(∀l,l∈ls->2<=l.k/\l.k<=5)->(eR (ls.foldl jv all) n).asText=((eR all n).asText||uT (ls.filter fun l=>l.nm==n))/\(eR (ls.foldl jv all) n).asNo=((eR all n).asNo||uN (ls.filter fun l=>l.nm==n))/\(eR (ls.foldl jv all) n).has=((eR all n).has||uH (ls.filter fun l=>l.nm==n))
 |[],all,n,_=>by simp[uT,uN,uH]
 |l::r,all,n,h=>by
  obtain⟨h1,h2,h3⟩:=vZ r (jv all l) n fun m hm=>h m (by simp[hm]);have hk:=h l (by simp);rw[bq9,h1,h2,h3,mB,aa8];by_cases e:l.nm=n
  ·rw[if_pos e,if_pos (by grind),e];unfold uT uN uH ti;simp only[bz8];by_cases k2:l.k=2
   ·simp[k2]
   ·by_cases k3:l.k=3
    ·simp[k3]
    ·by_cases k4:l.k=4
     ·simp[k4]
     grind
  grind
theorem BA(ls:List Lf)(hz:∀l,l∈ls->jB l)(n:bj):(eR (fi ls) n).asText=uT (ls.filter fun l=>l.nm==n)/\(eR (fi ls) n).asNo=uN (ls.filter fun l=>l.nm==n)/\(eR (fi ls) n).has=uH (ls.filter fun l=>l.nm==n):=by
 obtain⟨h1,h2,h3⟩:=vZ ls [] n fun l hl=>(hz l hl).k;unfold fi;rw[h1,h2,h3];exact⟨Y,Y,Y⟩
theorem JR(ls:List Lf)(n:bj):JG ls n=((ls.filter fun l=>l.nm==n).map lw).sum:=by
 unfold JG
 induction ls<;>grind
theorem xe(F:Nat)(ls:List Lf)(k:Int->Option Bool)(hl:∀l,l∈ls->jB l)(hlen:ls.length<=1500000):∀(m j:Nat),j+m=ls.length->∀w:Nat,w<=10+100*j->
  gQ F (ls.map Lf.row) k ((ls.drop j).map Lf.row) (j:Int) (w:Int)=k ((w+((ls.drop j).map lw).sum:Nat):Int)
 |0,j,hj,w,hw=>by
  simp_all[gQ]
 |m+1,j,hj,w,hw=>by
  have hn:j<ls.length:=by omega
  have ho:=hl ls[j] (az8 _);have hk:=ho.k;have hlen2:=ho.len;have hb:=My ho;have ih:=fun w hw=>xe F ls k hl hlen m (j+1) (by omega) w hw;rw[show((j+1:Nat):Int)=(j:Int)+1 from rfl] at ih;rw[bo8 hn,bh9,gQ,bh9,List.sum_cons];simp only[pY hn,Lf.dec,bt9,az]
  show(if (ls[j].k==2)=true then gQ F (ls.map Lf.row) k ((ls.drop (j+1)).map Lf.row) ((j:Int)+1) (bt ((w:Int)+((ls[j].tx.length:Nat):Int))) else if (ls[j].k==3)=true then gQ F (ls.map Lf.row) k ((ls.drop (j+1)).map Lf.row) ((j:Int)+1) (bt ((w:Int)+(bt (2*((ls[j].tx.length:Nat):Int))))) else if (ls[j].k==5)=true then gQ F (ls.map Lf.row) k ((ls.drop (j+1)).map Lf.row) ((j:Int)+1) (bt ((w:Int)+2)) else gQ F (ls.map Lf.row) k ((ls.drop (j+1)).map Lf.row) ((j:Int)+1) (w:Int))=_
  have fin:∀v:Nat,lw ls[j]=v->∀x:Int,x=((w+v:Nat):Int)->gQ F (ls.map Lf.row) k ((ls.drop (j+1)).map Lf.row) ((j:Int)+1) x=k ((w+(lw ls[j]+((ls.drop (j+1)).map lw).sum):Nat):Int):=by
   intro v hv x hx;rw[hx,ih (w+v) (by omega),hv,af9]
  unfold lw at fin hb;by_cases k2:ls[j].k=2
  ·rw[if_pos (by grind)];rw[if_pos k2] at fin hb;rw[fin _ rfl _ (by grind [cA])]
   congr 1
   unfold lw
   grind
  rw[if_neg (by grind)];rw[if_neg k2] at fin hb;by_cases k3:ls[j].k=3
  ·rw[if_pos (by grind)];rw[if_pos k3] at fin hb;rw[fin _ rfl _ (by grind [cA])]
   congr 1
   unfold lw
   grind
  rw[if_neg (by grind)];rw[if_neg k3] at fin hb;by_cases k5:ls[j].k=5
  ·rw[if_pos (by grind)];rw[if_neg (by omega)] at fin hb;rw[fin _ rfl _ (by grind [cA])]
   congr 1
   unfold lw
   grind
  ·rw[if_neg (by grind)];have k4:ls[j].k=4:=by omega
   rw[if_pos k4] at fin hb;rw[fin _ rfl _ (by omega)]
   congr 1
   unfold lw
   grind
def hX(w:bj->Int):List bj->Int
 |[]=>1
 |n::r=>w n*hX w r
theorem tL{w:bj->Int}{l l':List bj}(h:l.Perm l'):hX w l=hX w l':=by
 induction h<;>grind [hX]
theorem wg{w:bj->Int}:∀{l:List bj},(∀n,n∈l->2<=w n)->((2 ^ l.length:Nat):Int)<=hX w l
 |[],_=>by simp[hX]
 |n::r,h=>by
  have h1:=h n (by simp);have h2:=wg (l:=r) fun m hm=>h m (by simp[hm])
  have h3:(1:Int)<=((2 ^ r.length:Nat):Int):=by
   have:=Nat.one_le_two_pow (n:=r.length);omega
  rw[hX,br8,Nat.pow_succ,an9];have:=Int.mul_le_mul h1 h2 (by omega) (by omega)
  grind
theorem Er{w:bj->Int}{l:List bj}(h:∀n,n∈l->2<=w n):1<=hX w l:=by
 have h1:=wg h;have:=Nat.one_le_two_pow (n:=l.length);omega
def FS(t:Tr)(n:bj):Int:=FR (eR (fi t.lvs) n)
theorem CG{t:Tr}(hg:fZ t.lvs)(n:bj):2<=FS t n/\FS t n<=1200003:=by
 have h1:=((Av hg).ok n).wt
 grind [CH,FS,FR]
theorem Kl{t:Tr}(hg:fZ t.lvs):f0 (fi t.lvs)=hX (FS t) ((fi t.lvs).map (·.1)):=by
 have:∀l:sF,(∀p,p∈l->p∈fi t.lvs)->f0 l=hX (FS t) (l.map (·.1)):=by
  intro l
  induction l with
  |nil=>intro _;rfl
  |cons p r ih=>
   intro h;rw[f0,bh9,hX,ih fun q hq=>h q (by simp[hq])]
   congr 1
   unfold Eb;rw[Mt hg (h p (by simp))];rfl
 grind
theorem zF(t:Tr)(hz:t.gd)(n:bj):(eR (fi t.lvs) n).asText=uT (sD t n)/\(eR (fi t.lvs) n).asNo=uN (sD t n)/\(eR (fi t.lvs) n).has=uH (sD t n):=BA t.lvs (xQ t hz) n
theorem NW{ls:List Lf}(hg:fZ ls){n:bj}(h:n∈se ls):n≠[]:=by
 obtain⟨l,hl,e⟩:=(nU hg).1 h;exact e ▸ tU (hg.1 l hl).nm
theorem Je(t:Tr)(ok:t.ok)(hz:t.gd)(hc:t.cnt<=1500000)(F:Nat)(hF:t.fu+200000000<=F):
  ∃ns,Jf F t.toT []=some ns/\oX ns/\∀y,y∈ns<->∃l,l∈t.lvs/\l.nm=y:=by
 obtain⟨ns,e,h1,h2,_⟩:=Pa t ok hz F hF [] (by simp) (by simp;omega)
 grind
theorem Kp{t:Tr}(hg:fZ t.lvs){ns:List bj}(h1:oX ns)(h2:∀y,y∈ns<->∃l,l∈t.lvs/\l.nm=y):ns.Perm (se t.lvs):=
 (List.perm_ext_iff_of_nodup (h1.imp wL) (wn hg)).2 fun y=>by rw[h2,nU hg]
theorem xf(F:Nat)(t:Tr)(ok:t.ok)(hz:t.gd)(hc:t.cnt<=1500000)(hg:fZ t.lvs)(hF:t.fu+200000000<=F)(ns:List bj)(hns:∀n,n∈ns->n≠[])(hlen:ns.length<=12000):
  ∀(fuel j:Nat),ns.length<fuel+j->j<=ns.length->∀p:Int,1<=p->p<=200000*1200003->
  jy F t.toT ns (fun(n5:Int)=>some (decide (n5>200000))) fuel p (j:Int)=some (decide (200000<p*hX (FS t) (ns.drop j)))
 |0,j,h,h2,p,_,_=>by omega
 |fuel+1,j,h,h2,p,hp1,hp2=>by
  rw[jy];have hpos:1<=hX (FS t) (ns.drop j):=Er fun n _=>(CG hg n).1;by_cases hj:j<ns.length
  ·rw[if_pos (decide_eq_true (by omega))];by_cases hp:p<=200000
   ·rw[if_pos (decide_eq_true hp),az,bU hj,bt9,I3 ns[j] (hns _ (az8 _)) t ok hz hc F (by omega),bt9,az];have hlo:∀l,l∈sD t ns[j]->jB l:=fun l hl=>xQ t hz l (s6.1 hl).1;have hab:=s7 t ns[j]
    have hw:=xe F (sD t ns[j]) (fun n19=>(OQ F ((sD t ns[j]).map Lf.row)).bind fun y43=>if (y43.2.2)=true then jy F t.toT ns (fun(n5:Int)=>some (decide (n5>200000))) fuel (bt (p*(bt (n19+1)))) (bt ((j:Int)+1))
     else if (y43.1)=true then jn (fun(n48:Int)=>jy F t.toT ns (fun(n5:Int)=>some (decide (n5>200000))) fuel (bt (p*n48)) (bt ((j:Int)+1))) (fun k47=>if (y43.2.1)=true then k47 (bt (n19+1))
     else k47 n19)
     else jy F t.toT ns (fun(n5:Int)=>some (decide (n5>200000))) fuel (bt (p*n19)) (bt ((j:Int)+1))) hlo (by omega) (sD t ns[j]).length 0 (by omega) 2 (by omega)
    rw[bn8] at hw;rw[show((0:Nat):Int)=0 from rfl,show((2:Nat):Int)=2 from rfl] at hw;rw[hw,I2,bt9,az];dsimp only;have hsm:((sD t ns[j]).map lw).sum=JG t.lvs ns[j]:=(JR _ _).symm;rw[hsm];have h6:=CH hg ns[j];have hwt:=((Av hg).ok ns[j]).wt;obtain⟨f1,f2,f3⟩:=zF t hz ns[j]
    have fin:∀x:Int,x=FS t ns[j]->jy F t.toT ns (fun(n5:Int)=>some (decide (n5>200000))) fuel (bt (p*x)) (bt ((j:Int)+1))=some (decide (200000<p*hX (FS t) (ns.drop j))):=by
     intro x hx;obtain⟨r1,r2⟩:=CG hg ns[j];have q1:1*1<=p*x:=Int.mul_le_mul hp1 (by omega) (by omega) (by omega);have q2:p*x<=200000*1200003:=Int.mul_le_mul hp (by omega) (by omega) (by omega);rw[cA (n:=p*x) (by omega) (by omega),cA (n:=(j:Int)+1) (by omega) (by omega),show((j:Int)+1)=((j+1:Nat):Int) from rfl,xf F t ok hz hc hg hF ns hns hlen fuel (j+1) (by omega) (by omega) _ (by omega) (by omega),bo8 hj,hX,hx,Int.mul_assoc]
    unfold FS FR at fin;rw[f1,f2,f3,hwt] at fin;cases e3:uH (sD t ns[j]) with
    |true=>
     rw[if_pos rfl];exact fin _ (by rw[e3,Bool.true_or,if_pos Y,cA (by omega) (by omega)];omega)
    |false=>
     rw[if_neg (by simp)];cases e1:uT (sD t ns[j]) with
     |true=>
      rw[if_pos rfl];cases e2:uN (sD t ns[j]) with
      |true=>
       rw[if_pos rfl];exact fin _ (by rw[e3,e1,e2,if_pos (by rfl),cA (by omega) (by omega)];omega)
      |false=>
       rw[if_neg (by simp)];exact fin _ (by grind)
     |false=>
      rw[if_neg (by simp)];exact fin _ (by grind)
   ·rw[if_neg (by grind)];have:p*1<=p*hX (FS t) (ns.drop j):=Int.mul_le_mul_of_nonneg_left hpos (by omega)
    grind
  simp_all[if_neg,al9,hX]
theorem Pf(t:Tr)(ok:t.ok)(hz:t.gd)(hc:t.cnt<=1500000)(hg:fZ t.lvs)(F:Nat)(hF:t.fu+200000000<=F):Pg F t.toT=some (!jI t.lvs):=by
 obtain⟨ns,e,h1,h2⟩:=Je t ok hz hc F hF;have h2:=Kp hg h1 h2;have hl:=xN t.lvs;have hlen:ns.length<=12000:=by rw[h2.length_eq,hl];have:=(Av hg).ln;have:=hg.2;omega
 unfold Pg jI;rw[e,bt9,az,show(0:Int)=((0:Nat):Int) from rfl,xf F t ok hz hc hg hF ns (fun n hn=>NW hg (h2.mem_iff.1 hn)) hlen F 0 (by omega) (by omega) 1 (by omega) (by omega),bn8,Int.one_mul,tL h2,Kl hg];unfold se;rw[tL (dY ((fi t.lvs).map (·.1)))]
 congr 1
 grind
theorem K3{n:Nat}{bg:List bj}{x:bj}{c:UInt8}(h:Bp n bg x=false)(hn:n<=x.length):Bp n bg (x++[c])=decide (x++[c]∈bg):=by
 by_cases hm:x++[c]∈bg
 ·rw[decide_eq_true hm];unfold Bp;rw[ca9];exact⟨_,hm,by rw[ao8,decide_eq_true_eq,ou];grind⟩
 ·rw[decide_eq_false hm];rw[fX] at h ⊢;intro b hb hl hp;rcases List.prefix_concat_iff.1 hp with e|hp<;>simp_all
theorem u7(F:Nat)(n0:Nat)(a2:List bj)(x:bj)(k:List bj->Option (bj×Bool))(h2:oX a2)(hl2:a2.length<=1000000)(hF:a2.length<F)(hx:x.length<1000)(hb:Bp n0 a2 x=false)(hn:n0<=x.length):∀(d c:Nat),c+d=127->32<=c->∀fuel,d<fuel->∀l:List bj,l.length+d<=100000000->
  g8 F a2 x k fuel (c:Int) l=k (l++eN n0 a2 x c)
 |0,c,hc,h32,fuel,hf,l,hl=>by
  obtain⟨fuel,rfl⟩:∃g,fuel=g+1:=⟨fuel - 1,by omega⟩<;>simp_all[eN,g8]
 |d+1,c,hc,h32,fuel,hf,l,hl=>by
  obtain⟨fuel,rfl⟩:∃g,fuel=g+1:=⟨fuel - 1,by omega⟩;have hw:=zq ⟨c,by omega⟩;dsimp only at hw;have hch:(([(c:Int)]:List Int).map fun n=>UInt8.ofNat n.toNat)=[UInt8.ofNat c]:=rfl;rw[g8,if_pos (decide_eq_true (by omega)),if_pos (decide_eq_true (by omega)),hch,if_pos (by simp;omega),I7 F a2 _ (by omega) h2 hF,bt9,az,hw,ua (by omega),K3 hb hn];have ih:=u7 F n0 a2 x k h2 hl2 hF hx hb hn d (c+1) (by omega) (by omega) fuel (by omega)
  grind
theorem yY(F:Nat)(a2:List bj)(x:bj)(k:List bj->Option (bj×Bool))(hx:¬x.length<1000)(fuel:Nat)(hf:0<fuel)(l:List bj):g8 F a2 x k fuel 32 l=k l:=by
 obtain⟨fuel,rfl⟩:∃g,fuel=g+1:=⟨fuel - 1,by omega⟩;rw[g8,if_pos (by decide),if_neg (by simp;omega)]
structure Qr(a1:bj)(a2 a3:List bj)(l:List bj)(n:Nat):Prop where
 nd:l.Nodup
 hd:l[0]? = some a1
 ok:∀q,q∈l->a1 <+: q/\qY q/\Bp a1.length a2 q=false
 par:∀j q,l[j]? = some q->0<j->∃i p c,i<n/\l[i]? = some p/\q=p++[c]
 cl:∀j q,j<n->l[j]? = some q->q∈a3/\(q.length<1000->∀y,y∈eN a1.length a2 q 32->y∈l)
 ln:l.length<=1+95*n
theorem Qr.len{a1:bj}{a2 a3 l:List bj}{n:Nat}(h:Qr a1 a2 a3 l n)(hn:n<=l.length):n<=a3.length:=by
 have:=fU (l:=l.take n) (m:=a3) (h.nd.sublist (List.take_sublist _ _)) fun y hy=>by
  obtain⟨j,hj,e⟩:=bf9 hy;rw[List.getElem_take] at e;rw[List.length_take] at hj;exact(h.cl j y (by omega) (by grind)).1
 grind
theorem pA(F:Nat)(a1:bj)(a2 a3:List bj)(k4:Option (bj×Bool))(h2:oX a2)(h3:oX a3)(hF:200<=F)(hF2:a2.length<F)(hF3:a3.length<F)(ha2:a2.length<=1000000)(ha:a3.length<=1000000):∀(fuel n:Nat) (l:List bj),Qr a1 a2 a3 l n->n<=l.length->a3.length+2<=n+fuel->
  (∃t,iX F a2 a3 k4 fuel (l.drop n)=some (t,true)/\ez a3 a2 a1 t)\/(iX F a2 a3 k4 fuel (l.drop n)=k4/\∃l',Qr a1 a2 a3 l' l'.length)
 |0,n,l,h,hn,hf=>by have:=h.len hn;omega
 |fuel+1,n,l,h,hn,hf=>by
  have hll:=h.len hn;have hln:=h.ln;rw[iX];by_cases hnl:n<l.length
  ·have hd:l.drop n=l[n]::l.drop (n+1):=bo8 hnl;have hx:l[n]? = some l[n]:=ax9 hnl;obtain⟨x,hxe⟩:∃x,x=l[n]:=⟨_,rfl⟩;rw[<-hxe] at hx hd;have hxm:=aw9 hx;obtain⟨o1,o2,o3⟩:=h.ok x hxm;rw[if_pos (decide_eq_true (by grind)),az,hd,show cH (x::l.drop (n+1)) 0=some x from rfl,bt9,if_pos (by simp),I7 F a3 x (by omega) h3 hF3,bt9,List.drop_succ_cons,bn8];by_cases hx3:x∈a3
   ·rw[decide_eq_true hx3,if_neg (by simp),az];have hxl:x.length<=1000:=o2.1;by_cases h1000:x.length<1000
    ·have hin:=u7 F a1.length a2 x (fun l17=>(fun l9=>iX F a2 a3 k4 fuel l9) l17) h2 ha2 hF2 h1000 o3 o1.length_le 95 32 rfl (by omega) F (by omega) (l.drop (n+1)) (by grind);rw[show((32:Nat):Int)=32 from rfl] at hin;rw[hin];dsimp only
     have hok:∀y,y∈eN a1.length a2 x 32->a1 <+: y/\qY y/\Bp a1.length a2 y=false:=by
      intro y hy;obtain⟨⟨c,c1,c2,rfl⟩,hb⟩:=ig.1 hy;refine⟨o1.trans (List.prefix_append _ _),⟨by simp;omega,fun d hd=>?_⟩,hb⟩;rcases bu9.1 hd with hd|hd
      ·exact o2.2 d hd
      ·grind
     have hkl:=HV a1.length a2 x;rw[show l.drop (n+1)++eN a1.length a2 x 32=(l++eN a1.length a2 x 32).drop (n+1) by grind];refine pA F a1 a2 a3 k4 h2 h3 hF hF2 hF3 ha2 ha fuel (n+1) (l++eN a1.length a2 x 32) ⟨?_,?_,fun q hq=>?_,fun j q hj h0=>?_,fun j q hj hq=>?_,by grind⟩ (by simp;omega) (by omega)
     ·rw[bu8];refine⟨h.nd,t8 _ _ _,fun a hal b hbk e=>?_⟩;subst e;obtain⟨⟨c,c1,c2,rfl⟩,hb⟩:=ig.1 hbk;obtain⟨j,hj⟩:=ba9 hal;by_cases h0:j=0
      ·subst h0;rw[h.hd] at hj
       grind
      ·obtain⟨i,p,d,g2,g3,g4⟩:=h.par j _ hj (by omega);have e2:=List.append_inj' g4 rfl;rw[<-e2.1] at g3;have hi:i<l.length:=(ba8.1 g3).1;have:=(List.getElem?_inj hi h.nd).1 (g3.trans hx.symm);omega
     ·rw[ar8 (by grind)];exact h.hd
     ·rcases bu9.1 hq with hq|hq
      ·exact h.ok q hq
      grind
     ·by_cases hjl:j<l.length
      ·rw[ar8 hjl] at hj;obtain⟨i,p,c,g2,g3,g4⟩:=h.par j q hj h0<;>grind
      ·rw[as9 (by omega)] at hj;have hq:=aw9 hj;obtain⟨⟨c,c1,c2,rfl⟩,hb⟩:=ig.1 hq;exact⟨n,x,c,by omega,by grind,rfl⟩
     ·by_cases e:j=n
      ·grind
      ·rw[ar8 (by omega)] at hq;obtain⟨g1,g2⟩:=h.cl j q (by omega) hq<;>simp_all
    ·rw[yY F a2 x _ h1000 F (by omega)];dsimp only;refine pA F a1 a2 a3 k4 h2 h3 hF hF2 hF3 ha2 ha fuel (n+1) l ⟨h.nd,h.hd,h.ok,fun j q hj h0=>?_,fun j q hj hq=>?_,by omega⟩ hnl (by omega)
     ·obtain⟨i,p,c,g2,g3⟩:=h.par j q hj h0<;>grind
     ·by_cases e:j=n
      ·grind
      ·exact h.cl j q (by omega) hq
   ·rw[decide_eq_false hx3,if_pos (by simp)];exact .inl ⟨x,Y,o1,o2,hx3,fX.1 o3⟩
  grind
theorem Qr.none{a1:bj}{a2 a3 l:List bj}(h:Qr a1 a2 a3 l l.length)(t:bj):¬ez a3 a2 a1 t:=by
 intro hf
 have key:∀k,a1.length+k<=t.length->t.take (a1.length+k)∈l:=by
  intro k
  induction k with
  |zero=>
   intro _;rw[bc8,<-List.prefix_iff_eq_take.1 hf.pre];exact aw9 h.hd
  |succ k ih=>
   intro hk;have hp:=ih (by omega);obtain⟨j,hj⟩:=ba9 hp;have hlt:a1.length+k<t.length:=by omega
   obtain⟨_,g⟩:=h.cl j _ (ba8.1 hj).1 hj;have hlen:(t.take (a1.length+k)).length<1000:=by have:=hf.ok.1;simp;omega
   refine g hlen _ (ig.2 ⟨⟨t[a1.length+k],?_,?_,?_⟩,fX.2 fun b hb hl hp=>?_⟩)
   ·exact(hf.ok.2 _ (az8 hlt)).1
   ·exact(hf.ok.2 _ (az8 hlt)).2
   ·grind [List.take_succ_eq_append_getElem]
   ·exact hf.no b hb hl (hp.trans (List.take_prefix _ _))
 have hle:=hf.pre.length_le;have:=key (t.length - a1.length) (by omega);rw[show a1.length+(t.length - a1.length)=t.length by omega,List.take_length] at this;obtain⟨j,hj⟩:=ba9 this;exact hf.not (h.cl j t (ba8.1 hj).1 hj).1
theorem Lz(F:Nat)(a1:bj)(a2 a3:List bj)(h2:oX a2)(h3:oX a3)(hF2:a2.length<F)(hF:a3.length+200<=F)(ha2:a2.length<=1000000)(ha:a3.length<=1000000)(h1:qY a1):
  (∃t,CC F a1 a2 a3=some (t,true)/\ez a3 a2 a1 t)\/(CC F a1 a2 a3=some ([],false)/\∀t,¬ez a3 a2 a1 t):=by
 have hb:Bp a1.length a2 a1=false:=fX.2 fun b _ hl hp=>by grind
 have h0:Qr a1 a2 a3 [a1] 0:=⟨by simp,rfl,fun q hq=>by grind,fun j q hj h0=>by
  grind,fun j q hj=>by omega,by simp⟩
 rcases pA F a1 a2 a3 (some ([],false)) h2 h3 (by omega) hF2 (by omega) ha2 ha F 0 [a1] h0 (by simp) (by omega) with ⟨t,e,hf⟩|⟨e,l',hl⟩
 ·simp_all[CC,az]
 ·rw[bn8] at e;exact .inr ⟨by simp_all[CC,az],hl.none⟩
def HZ(ls:List Lf)(x:bj):Prop:=∃l,l∈ls/\l.k=2/\x∈l.tx
def IK(ls:List Lf)(x:bj):Prop:=∃l,l∈ls/\l.k≠2/\x∈l.tx
theorem pF(F:Nat)(ls:List Lf)(j:Nat)(hj:j<ls.length)(k:List bj->List bj->Option (List bj))(hF:200000000<=F)(htx:ls[j].tx.length<=50):∀(fuel i:Nat),ls[j].tx.length<fuel+i->i<=ls[j].tx.length->∀A B:List bj,oX A->oX B->A.length+B.length+(ls[j].tx.length - i)<=80000000->
  ∃A' B',lV F (ls.map Lf.row) (j:Int) k fuel A B (i:Int)=k A' B'/\oX A'/\oX B'/\(∀x,x∈A'<->x∈A\/(ls[j].k=2/\x∈ls[j].tx.drop i))/\(∀x,x∈B'<->x∈B\/(ls[j].k≠2/\x∈ls[j].tx.drop i))/\A'.length+B'.length<=A.length+B.length+(ls[j].tx.length - i)
 |0,i,h,h2,A,B,_,_,_=>by omega
 |fuel+1,i,h,h2,A,B,hA,hB,hl=>by
  rw[lV];simp only[pY hj,Lf.dec,bt9]
  show ∃A' B',(if (decide ((i:Int)<((ls[j].tx.length:Nat):Int)))=true then _ else _)=_/\_
  by_cases hi:i<ls[j].tx.length
  ·rw[if_pos (decide_eq_true (by omega)),az];have hix:cH ls[j].t.Texts (i:Int)=some ls[j].tx[i]:=bU hi;rw[hix];simp only[bt9];have hw:bt ((i:Int)+1)=((i+1:Nat):Int):=by rw[cA (by omega) (by omega)];rfl
   rw[hw,show ls[j].t.Kind=ls[j].k from rfl];by_cases k2:ls[j].k=2
   ·rw[if_pos (by grind)];obtain⟨A1,e1,p1,p2,p3⟩:=s9 F A ls[j].tx[i] (by omega) hA (by omega);obtain⟨A',B',g1,g2,g3,g4,g5,g6⟩:=pF F ls j hj k hF htx fuel (i+1) (by omega) (by omega) A1 B p1 hB (by omega);refine⟨A',B',by grind,g2,g3,fun x=>?_,fun x=>?_,by omega⟩
    ·grind [List.drop_eq_getElem_cons]
    grind
   ·rw[if_neg (by grind)];obtain⟨B1,e1,p1,p2,p3⟩:=s9 F B ls[j].tx[i] (by omega) hB (by omega);obtain⟨A',B',g1,g2,g3,g4,g5,g6⟩:=pF F ls j hj k hF htx fuel (i+1) (by omega) (by omega) A B1 hA p1 (by omega);refine⟨A',B',by grind,g2,g3,fun x=>?_,fun x=>?_,by omega⟩
    ·grind
    grind [List.drop_eq_getElem_cons]
  ·rw[if_neg (by simp;omega)]
   grind
theorem vc(F:Nat)(ls:List Lf)(k:List bj->List bj->Option (List bj))(hF:200000000<=F)(htx:∀l,l∈ls->l.tx.length<=50):∀(m j:Nat),j+m=ls.length->∀A B:List bj,oX A->oX B->A.length+B.length+50*m<=80000000->
  ∃A' B',i4 F (ls.map Lf.row) k m (j:Int) A B=k A' B'/\oX A'/\oX B'/\(∀x,x∈A'<->x∈A\/HZ (ls.drop j) x)/\(∀x,x∈B'<->x∈B\/IK (ls.drop j) x)/\A'.length+B'.length<=A.length+B.length+50*m
 |0,j,hj,A,B,hA,hB,hl=>by
  rw[i4,al9 (by omega)]
  grind [HZ,IK]
 |m+1,j,hj,A,B,hA,hB,hl=>by
  have hn:j<ls.length:=by omega
  have ht:=htx ls[j] (az8 _);rw[i4,az,az];obtain⟨A1,B1,e1,p1,p2,p3,p4,p5⟩:=pF F ls j hn (fun l16 l17=>(fun l13 l14=>i4 F (ls.map Lf.row) k m ((j:Int)+1) l13 l14) l16 l17) hF ht F 0 (by omega) (by omega) A B hA hB (by omega);obtain⟨A',B',g1,g2,g3,g4,g5,g6⟩:=vc F ls k hF htx m (j+1) (by omega) A1 B1 p1 p2 (by omega);rw[show((0:Nat):Int)=0 from rfl] at e1;refine⟨A',B',e1.trans g1,g2,g3,fun x=>?_,fun x=>?_,by omega⟩
  ·rw[g4,p3,bn8,bo8 hn];unfold HZ
   grind
  ·rw[g5,p4,bn8,bo8 hn];unfold IK
   grind
structure Sm(ls sm:List Lf):Prop where
 sub:∀l,l∈ls->l∈sm
 ok:∀l,l∈sm->jB l
 ln:sm.length<=12000
theorem pD(F:Nat)(is bg:List bj)(hi:oX is)(hb:oX bg)(hF:200000000<=F)(hl1:is.length<=600000)(hl2:bg.length<=600000)(k:List bj->Option (List bj)):∀(l acc:List bj),(∀p,p∈l->qY p)->acc.length+l.length<=10000000->
  ∃fs,iZ F is bg k l acc=k (acc++fs)/\fs.length<=l.length/\(∀p,p∈l->(∃t,ez is bg p t/\t∈fs)\/∀t,¬ez is bg p t)/\∀x,x∈fs->∃p,ez is bg p x
 |[],acc,_,_=>⟨[],by rw[iZ];simp,ae9 _,by simp,by simp⟩
 |p::l,acc,h,hl=>by
  simp only[br8] at hl;rw[iZ];rcases Lz F p bg is hb hi (by omega) (by omega) (by omega) (by omega) (h p (by simp)) with ⟨t,e,hf⟩|⟨e,hf⟩
  ·obtain⟨fs,g1,g2,g3,g4⟩:=pD F is bg hi hb hF hl1 hl2 k l (acc++[t]) (fun q hq=>h q (by simp[hq])) (by simp;omega);refine⟨t::fs,?_,by simp;omega,fun q hq=>?_,fun x hx=>?_⟩
   ·rw[e,bt9,az]
    grind
   ·grind
   grind
  ·obtain⟨fs,g1,g2,g3,g4⟩:=pD F is bg hi hb hF hl1 hl2 k l acc (fun q hq=>h q (by simp[hq])) (by omega);refine⟨fs,?_,by simp;omega,fun q hq=>?_,g4⟩
   ·simp_all[az]
   grind
theorem LG(F:Nat)(ls:List Lf)(hF:200000000<=F)(hlo:∀l,l∈ls->jB l)(hlen:ls.length<=1500000){sm:List Lf}(hsm:Sm ls sm):
  ∃is bg out,CD F (ls.map Lf.row)=some out/\(∀x,x∈is<->HZ ls x)/\(∀x,x∈bg<->IK ls x)/\I0 is bg out/\out.length<=1300000:=by
 unfold CD;rw[az,be8,show(((ls.length:Nat):Int)).toNat=ls.length by omega];obtain⟨is,bg,e,h1,h2,h3,h4,h5⟩:=vc F ls (fun(l3:List B8) (l4:List B8)=>if l3.length*16<=140737488355328 then (zf F l4 ([]:B8)).bind fun y55=>jn (fun(l58:List B8)=>some l58) (fun k57=>iZ F l3 l4 k57 y55 l3) else none) hF (fun l hl=>(hlo l hl).len) ls.length 0 (by omega) [] [] (by simp) (by simp) (by simp;omega);simp only[bm9,by8,bn8,List.not_mem_nil,false_or] at h3 h4 h5;rw[show((0:Nat):Int)=0 from rfl] at e
 have hU:(sm.flatMap Lf.tx).length<=600000:=by
  have:=il Lf.tx 50 sm fun l hl=>(hsm.ok l hl).len;have:=hsm.ln;omega
 have hi6:is.length<=600000:=bq8 (fU (h1.imp wL) fun x hx=>by
  obtain⟨l,hl,_,hx⟩:=(h3 x).1 hx;exact ac8.2 ⟨l,hsm.sub l hl,hx⟩) hU
 have hb6:bg.length<=600000:=bq8 (fU (h2.imp wL) fun x hx=>by
  obtain⟨l,hl,_,hx⟩:=(h4 x).1 hx;exact ac8.2 ⟨l,hsm.sub l hl,hx⟩) hU
 obtain⟨b2,e2,q1,q2,q3⟩:=s9 F bg [] (by omega) h2 (by omega)
 have hbo:∀b,b∈bg->qY b:=fun b hb=>by
  obtain⟨l,hl,_,hx⟩:=(h4 b).1 hb;exact(hlo l hl).tx b hx
 have h0:qY []:=⟨by simp,by simp⟩;obtain⟨fs,g1,g2,g3,g4⟩:=pD F is bg h1 h2 hF (by omega) (by omega) (fun l58=>some l58) b2 is (fun p hp=>((q2 p).1 hp).elim (fun e=>e ▸ h0) (hbo p)) (by omega);refine⟨is,bg,is++fs,?_,h3,h4,⟨fun e he=>cd9 _ he,fun p hp=>?_,fun x hx=>?_⟩,by grind⟩
 ·rw[e,if_pos (by omega),e2,bt9,az];exact g1
 ·grind
 ·rcases bu9.1 hx with hx|hx
  ·grind
  ·obtain⟨p,hp⟩:=g4 x hx;exact .inr hp.ok
abbrev Cu(l:List Int):Prop:=l.Pairwise (fun a b=>a<b)
theorem u6(F:Nat)(a:List Int)(x:Int)(ha:Cu a)(hl:a.length<=10000000):∀(m j:Nat),j+m=a.length->(∀y,y∈a.take j->y<x)->
  ∃out,jU F a x (fun(l4:List Int)=>if (l4++([x]:List Int)).length*8<=140737488355328 then some (l4++([x]:List Int)) else none) (a.drop j) (j:Int) (a.take j)=some out/\Cu out/\(∀y,y∈out<->y=x\/y∈a)/\out.length<=a.length+1
 |0,j,hj,h=>by
  rw[al9 (by omega),jU,List.take_of_length_le (by omega),if_pos (by simp;omega)]
  grind
 |m+1,j,hj,h=>by
  have hn:j<a.length:=by omega
  rw[bo8 hn,jU];by_cases e:a[j]=x
  ·grind
  ·rw[if_neg (by grind),bU hn,bt9];by_cases hg:a[j]>x
   ·rw[if_pos (decide_eq_true hg),if_pos (by simp;omega),show((j:Int)).toNat=j from rfl,if_pos ⟨by omega,by omega⟩,if_pos (by simp;omega)];refine⟨_,rfl,?_,fun y=>?_,by simp;omega⟩
    ·have hgt:∀y,y∈a.drop j->x<y:=fun y hy=>by
      obtain⟨q,hq,e⟩:=bf9 hy;rw[List.getElem_drop] at e;rw[List.length_drop] at hq;by_cases h0:q=0
      ·grind
      ·have:=au9.1 ha j (j+q) hn (by omega) (by omega);omega
     grind
    ·rw[bu9,bu9,bi9]
     grind [List.take_append_drop]
   ·rw[if_neg (by grind),bt9,if_pos (by grind),<-List.take_succ_eq_append_getElem hn,show((j:Int)+1)=((j+1:Nat):Int) from rfl];refine u6 F a x ha hl m (j+1) (by omega) fun y hy=>?_
    grind [List.take_succ_eq_append_getElem]
theorem Ly(F:Nat)(a:List Int)(x:Int)(ha:Cu a)(hl:a.length<=10000000):∃out,Jj F a x=some out/\Cu out/\(∀y,y∈out<->y=x\/y∈a)/\out.length<=a.length+1:=by
 unfold Jj;rw[az];have:=u6 F a x ha hl a.length 0 (by omega) (by simp)
 grind
def Ey(ls:List Lf)(x:Int):Prop:=∃l,l∈ls/\l.k=5/\l.n=x
theorem pC(F:Nat)(ls:List Lf)(k:List Int->Option (List Int)):∀(m j:Nat),j+m=ls.length->∀A:List Int,Cu A->A.length+m<=10000000->
  ∃A',jW F (ls.map Lf.row) k ((ls.drop j).map Lf.row) (j:Int) A=k A'/\Cu A'/\(∀x,x∈A'<->x∈A\/Ey (ls.drop j) x)/\A'.length<=A.length+m
 |0,j,hj,A,hA,hl=>by
  grind [jW,Ey]
 |m+1,j,hj,A,hA,hl=>by
  have hn:j<ls.length:=by omega
  rw[bo8 hn,bh9,jW];simp only[pY hn,Lf.dec,bt9,az];rw[show ls[j].t.Kind=ls[j].k from rfl,show ls[j].t.N=ls[j].n from rfl];by_cases k5:ls[j].k=5
  ·rw[if_pos (by grind)];obtain⟨A1,e1,p1,p2,p3⟩:=Ly F A ls[j].n hA (by omega);obtain⟨A',g1,g2,g3,g4⟩:=pC F ls k m (j+1) (by omega) A1 p1 (by omega);refine⟨A',by grind,g2,fun x=>?_,by omega⟩;rw[g3,p2];unfold Ey
   grind
  ·rw[if_neg (by grind)];obtain⟨A',g1,g2,g3,g4⟩:=pC F ls k m (j+1) (by omega) A hA (by omega);refine⟨A',g1,g2,fun x=>?_,by omega⟩;rw[g3];unfold Ey
   grind
def Bl:Option Int->List Int->List Int
 |_,[]=>[]
 |p,x::r=>(if -1000000000000<=x - 1/\(∀q,p=some q->q<x - 1) then [x - 1] else [])++x::Bl (some x) r
theorem Dc:∀(l:List Int) (p:Option Int),(Bl p l).length<=2*l.length
 |[],p=>by simp[Bl]
 |x::r,p=>by
  have:=Dc r (some x);rw[Bl,be9,br8,br8];split<;>simp<;>omega
theorem BO:∀(l:List Int) (p:Option Int) (x:Int),x∈l->x∈Bl p l
 |y::r,p,x,h=>by
  rw[Bl];rcases aq9.1 h with e|h
  ·subst e;simp
  ·exact List.mem_append_right _ (bs8 _ (BO r (some y) x h))
theorem Hz:∀(l:List Int) (p:Option Int),(∀x,x∈l->ka x)->∀y,y∈Bl p l->ka y
 |[],p,h,y,hy=>by simp[Bl] at hy
 |x::r,p,h,y,hy=>by
  rw[Bl] at hy;have hx:=h x (by simp);unfold ka at hx;rcases bu9.1 hy with hy|hy
  ·split at hy
   ·rename_i hc;simp only[bi9] at hy;rw[hy];exact⟨hc.1,by omega⟩
   ·simp at hy
  ·rcases aq9.1 hy with e|hy
   ·rw[e];exact hx
   ·exact Hz r (some x) (fun z hz=>h z (by simp[hz])) y hy
theorem Db:∀(l:List Int) (p:Option Int),Cu l->(∀q,p=some q->∀x,x∈l->q<x)->∀x,x∈l->ka (x - 1)->x - 1∈Bl p l\/p=some (x - 1)
 |y::r,p,hs,hp,x,hx,ho=>by
  rw[Bl];rcases aq9.1 hx with e|hx
  ·subst e;by_cases hc : -1000000000000<=x - 1/\∀q,p=some q->q<x - 1
   ·grind
   ·right
    cases p with
    |none=>exact absurd ⟨ho.1,fun q hq=>by cases hq⟩ hc
    |some q=>
     have h1:=hp q rfl x (by simp);have h2:¬q<x - 1:=fun h=>hc ⟨ho.1,fun q' hq=>by grind⟩
     grind
  ·left
   have hs':=List.pairwise_cons.1 hs;rcases Db r (some y) hs'.2 (fun q hq=>by cases hq;exact hs'.1) x hx ho with h|h
   ·exact List.mem_append_right _ (bs8 _ h)
   ·have:y=x - 1:=ah8 h;rw[<-this];simp
theorem va(F:Nat)(l3:List Int)(hok:∀x,x∈l3->ka x)(hl:l3.length<=10000000)(k:List Int->Option (List Int)):∀(m j:Nat),j+m=l3.length->∀A:List Int,A.length+2*m<=100000000->
  g9 F l3 k (l3.drop j) (j:Int) A=k (A++Bl (if j=0 then none else l3[j - 1]?) (l3.drop j))
 |0,j,hj,A,hA=>by
  simp_all[g9,Bl]
 |m+1,j,hj,A,hA=>by
  have hn:j<l3.length:=by omega
  have hx:=hok l3[j] (az8 _);unfold ka at hx;have hw:bt (l3[j] - 1)=l3[j] - 1:=cA (by omega) (by omega);have ih:=fun A hA=>va F l3 hok hl k m (j+1) (by omega) A hA;rw[if_neg (by omega),bp8,ax9 hn,show((j+1:Nat):Int)=(j:Int)+1 from rfl] at ih;rw[bo8 hn,g9,az,hw,Bl]
  have fin:∀B:List Int,B.length<=1->(∀C:List Int,C=A++(B++[l3[j]])->g9 F l3 k (l3.drop (j+1)) ((j:Int)+1) C=k (A++(B++l3[j]::Bl (some l3[j]) (l3.drop (j+1))))):=by
   intro B hB C hC;rw[hC,ih _ (by simp;omega)];simp
  by_cases h1:l3[j] - 1 ≥ -1000000000000
  ·rw[if_pos (decide_eq_true h1)];by_cases h0:j=0
   ·rw[if_pos (by simp[h0]),if_pos (by simp;omega),bU hn,bt9,if_pos (by simp;omega)];rw[if_pos (⟨h1,fun q hq=>by grind⟩:_/\_)]
    grind
   ·have hj1:bt ((j:Int) - 1)=((j - 1:Nat):Int):=by rw[cA (by omega) (by omega)];omega
    rw[if_neg (by simp;omega),hj1,bU (show j - 1<l3.length by omega),bt9,az,bU hn,if_neg h0,ax9 (show j - 1<l3.length by omega)];simp only[bt9];by_cases h2:l3[j - 1]<l3[j] - 1
    ·rw[if_pos (decide_eq_true h2),if_pos (by simp;omega),if_pos (by simp;omega)];rw[if_pos (⟨h1,fun q hq=>by grind⟩:_/\_)]
     grind
    ·rw[if_neg (by grind),if_pos (by simp;omega)];rw[if_neg (fun hc=>h2 (hc.2 _ rfl))]
     grind
  ·rw[if_neg (by grind),bU hn,bt9,if_pos (by simp;omega)]
   grind
structure OP(ns out:List Int):Prop where
 h0:∃z,z∈out
 h1:∀n,n∈ns->n∈out
 h2:∀n,n∈ns->ka (n - 1)->n - 1∈out
 h3:∀m,m∈ns->(∀n,n∈ns->n<=m)->ka (m+1)->m+1∈out
 ok:∀x,x∈out->ka x
theorem LF(F:Nat)(ls:List Lf)(hlo:∀l,l∈ls->jB l)(hlen:ls.length<=1500000){sm:List Lf}(hsm:Sm ls sm):
  ∃ns out,y0 F (ls.map Lf.row)=some out/\(∀x,x∈ns<->Ey ls x)/\OP ns out/\out.length<=30000:=by
 unfold y0;rw[az];obtain⟨ns,e,h1,h2,h3⟩:=pC F ls (fun(l3:List Int)=>if (((l3.length:Nat):Int)==0)=true then some ([0]:List Int)
 else jn (fun(l25:List Int)=>(cH l3 (bt (((l3.length:Nat):Int) - 1))).bind fun x54=>jn (fun(l57:List Int)=>some l57) (fun k56=>if (decide ((bt (x54+1))<=1000000000000))=true then if (l25++([(bt (x54+1))]:List Int)).length*8<=140737488355328 then k56 (l25++([(bt (x54+1))]:List Int)) else none
 else k56 l25)) (fun k24=>g9 F l3 k24 l3 0 ([]:List Int))) ls.length 0 (by omega) [] (by simp) (by simp;omega)
 simp only[bm9,by8,bn8,List.not_mem_nil,false_or] at h2 h3;rw[bn8,show((0:Nat):Int)=0 from rfl] at e
 have hok:∀x,x∈ns->ka x:=fun x hx=>by
  obtain⟨l,hl,h5,e⟩:=(h2 x).1 hx;exact e ▸ (hlo l hl).n h5
 have hn6:ns.length<=12000:=by
  have q:=fU (m:=sm.map Lf.n) (h1.imp fun h=>Int.ne_of_lt h) fun x hx=>by
   obtain⟨l,hl,_,e⟩:=(h2 x).1 hx;exact bb9.2 ⟨l,hsm.sub l hl,e⟩
  rw[be8] at q;exact bq8 q hsm.ln
 refine⟨ns,?_⟩;rw[e];by_cases h0:ns=[]
 ·subst h0;exact⟨[0],rfl,h2,⟨⟨0,by simp⟩,by simp,by simp,by simp,fun x hx=>by simp only[bi9] at hx;subst hx;exact⟨by omega,by omega⟩⟩,by simp⟩
 ·have hpos:0<ns.length:=List.length_pos_iff.2 h0;rw[if_neg (by grind),az];have hL2:=va F ns hok (by omega) (fun(l25:List Int)=>(cH ns (bt (((ns.length:Nat):Int) - 1))).bind fun x54=>jn (fun(l57:List Int)=>some l57) (fun k56=>if (decide ((bt (x54+1))<=1000000000000))=true then if (l25++([(bt (x54+1))]:List Int)).length*8<=140737488355328 then k56 (l25++([(bt (x54+1))]:List Int)) else none
 else k56 l25)) ns.length 0 (by omega) [] (by simp;omega)
  rw[bn8,if_pos rfl,ad9,show((0:Nat):Int)=0 from rfl] at hL2;rw[hL2];have hw:bt (((ns.length:Nat):Int) - 1)=((ns.length - 1:Nat):Int):=by rw[cA (by omega) (by omega)];omega
  have hll:ns.length - 1<ns.length:=by omega
  rw[hw,bU hll,bt9,az];have hlast:=hok _ (az8 hll);have hlast':=hlast;unfold ka at hlast';have hw2:bt (ns[ns.length - 1]+1)=ns[ns.length - 1]+1:=cA (by omega) (by omega);rw[hw2];have hnl:=Dc ns none
  have key:∀ex:List Int,(∀x,x∈ex->ka x)->(ka (ns[ns.length - 1]+1)->ns[ns.length - 1]+1∈ex)->OP ns (Bl none ns++ex):=by
   intro ex h1' h2';refine⟨⟨ns[ns.length - 1],cd9 _ (BO _ _ _ (az8 _))⟩,fun n hn=>cd9 _ (BO _ _ _ hn),fun n hn ho=>?_,fun m hm hmax ho=>?_,fun x hx=>?_⟩
   ·grind [Db]
   ·have hme:m=ns[ns.length - 1]:=by
     obtain⟨i,hi,e⟩:=bf9 hm;have h5:=hmax _ (az8 hll);rcases bm8 i (ns.length - 1) with h6|h6
     ·have:=au9.1 h1 i (ns.length - 1) hi hll h6;omega
     ·grind
    grind
   ·grind [Hz]
  by_cases hc:ns[ns.length - 1]+1<=1000000000000
  ·rw[if_pos (decide_eq_true hc),if_pos (by simp;omega)];exact⟨_,rfl,h2,key [ns[ns.length - 1]+1] (fun x hx=>by simp only[bi9] at hx;subst hx;exact⟨by omega,hc⟩) (fun _=>by simp),by simp;omega⟩
  ·rw[if_neg (by grind)];have:=key [] (by simp) fun ho=>absurd ho.2 hc
   grind
def fz:Fd:=⟨false,false,[],0⟩
def ft(t:bj):Fd:=⟨true,false,t,0⟩
def fn(n:Int):Fd:=⟨false,true,[],n⟩
def fb(t:bj)(n:Int):Fd:=⟨true,true,t,n⟩
section
variable(F:Nat)(k:List Fd->Option (List Fd))
theorem ey:∀(l:List bj) (acc:List Fd),acc.length+l.length<=100000000000->dH F k l acc=k (acc++l.map ft)
 |[],acc,_=>by rw[dH];simp
 |x::l,acc,h=>by
  simp only[br8] at h;rw[dH,if_pos (by simp;omega),ey l _ (by simp;omega)];simp[ft]
theorem ew:∀(l:List Int) (acc:List Fd),acc.length+l.length<=100000000000->dG F k l acc=k (acc++l.map fn)
 |[],acc,_=>by rw[dG];simp
 |x::l,acc,h=>by
  simp only[br8] at h;rw[dG,if_pos (by simp;omega),ew l _ (by simp;omega)];simp[fn]
theorem vh(ts:List bj)(ns:List Int)(i:Nat)(hi:i<ts.length):∀(m j:Nat),j+m=ns.length->∀acc:List Fd,acc.length+m<=1000000000000->jZ F ts ns (i:Int) k m (j:Int) acc=k (acc++(ns.drop j).map (fb ts[i]))
 |0,j,hj,acc,_=>by simp_all[jZ]
 |m+1,j,hj,acc,h=>by
  have hn:j<ns.length:=by omega
  rw[jZ,bU hi,bt9,bU hn,bt9,if_pos (by simp;omega),show((j:Int)+1)=((j+1:Nat):Int) from rfl,vh ts ns i hi m (j+1) (by omega) _ (by simp;omega),bo8 hn,bh9,bv8,List.singleton_append];rfl
theorem pH(ts:List bj)(ns:List Int):∀(m i:Nat),i+m=ts.length->∀acc:List Fd,acc.length+m*ns.length<=1000000000000->i7 F ts ns k m (i:Int) acc=k (acc++(ts.drop i).flatMap fun t=>ns.map (fb t))
 |0,i,hi,acc,_=>by simp_all[i7]
 |m+1,i,hi,acc,h=>by
  have hn:i<ts.length:=by omega
  have h4:=vh F (fun l42=>(fun l40=>i7 F ts ns k m ((i:Int)+1) l40) l42) ts ns i hn ns.length 0 (by omega) acc (by rw[al8] at h;omega);rw[show((0:Nat):Int)=0 from rfl,bn8] at h4;rw[i7,az,az,show(((ns.length:Nat):Int)).toNat=ns.length by omega];refine h4.trans ?_;dsimp only;rw[show((i:Int)+1)=((i+1:Nat):Int) from rfl,pH ts ns m (i+1) (by omega) _ (by rw[be9,be8];rw[al8] at h;omega),bo8 hn,ab8,bv8]
end
def my(a b c:Bool)(ts:List bj)(ns:List Int):List Fd:=
 fz::((if (a||c)=true then ts.map ft else [])++((if (b||c)=true then ns.map fn else [])++(if (a&&b)=true then ts.flatMap fun t=>ns.map (fb t) else [])))
theorem L5(F:Nat)(ls:List Lf)(ts:List bj)(ns:List Int)(h1:CD F (ls.map Lf.row)=some ts)(h2:y0 F (ls.map Lf.row)=some ns)(hl1:ts.length<=1300000)(hl2:ns.length<=30000):
  Bg F (ls.map Lf.row)=some (my (uT ls) (uN ls) (uH ls) ts ns):=by
 unfold Bg;have hm:ts.length*ns.length<=1300000*30000:=Nat.mul_le_mul hl1 hl2;rw[I2,bt9,h1,h2];simp only[bt9,az];unfold my;cases uT ls<;>cases uN ls<;>cases uH ls<;>simp only[cf9,if_false,if_true,Bool.or_false,Bool.or_true,Bool.and_false,Bool.and_true,Bool.false_and,Bool.true_or,Bool.false_or,Bool.or_self,Bool.and_self,ah9]
 ·simp_all[ey,ew,fz]
 ·grind [ey,ew,fz]
 ·grind [ey,ew,fz]
 ·grind [ey,ew,fz]
 ·grind [ey,ew,fz]
 ·grind [ey,ew,fz]
 ·rw[ey F _ ts _ (by grind)];rw[ew F _ ns _ (by grind)];rw[show(((ts.length:Nat):Int)).toNat=ts.length by omega];have:=pH F (fun l33=>some l33) ts ns ts.length 0 (by omega) ([(⟨false,false,[],0⟩:Fd)]++ts.map ft++ns.map fn) (by simp;omega)
  simp_all[fz]
 ·rw[ey F _ ts _ (by grind)];rw[ew F _ ns _ (by grind)];rw[show(((ts.length:Nat):Int)).toNat=ts.length by omega];have:=pH F (fun l33=>some l33) ts ns ts.length 0 (by omega) ([(⟨false,false,[],0⟩:Fd)]++ts.map ft++ns.map fn) (by simp;omega)
  simp_all[fz]
def rsb(ls:List Lf)(is bg:List bj)(ns:List Int):ai:=⟨is,bg,ns,uT ls,uN ls,uH ls,0⟩
theorem NM{ls:List Lf}{is bg:List bj}{ns:List Int}(hi:∀x,x∈is<->HZ ls x)(hb:∀x,x∈bg<->IK ls x)(hn:∀x,x∈ns<->Ey ls x){l:Lf}(hl:l∈ls)(ho:jB l):EJ (rsb ls is bg ns) l:=by
 have hk:=ho.k;have hT:l.k=2\/l.k=3->uT ls=true:=fun h=>ca9.2 ⟨l,hl,by grind⟩;by_cases k2:l.k=2
 ·exact .inl ⟨k2,fun e he=>(hi e).2 ⟨l,hl,k2,he⟩,hT (.inl k2)⟩
 by_cases k3:l.k=3
 ·exact .inr (.inl ⟨k3,fun e he=>(hb e).2 ⟨l,hl,k2,he⟩,hT (.inr k3)⟩)
 by_cases k4:l.k=4
 ·exact .inr (.inr (.inl ⟨k4,ca9.2 ⟨l,hl,by simp[k4]⟩⟩))
 ·have k5:l.k=5:=by omega
  exact .inr (.inr (.inr ⟨k5,(hn _).2 ⟨l,hl,k5,Y⟩,ca9.2 ⟨l,hl,by simp[k5]⟩⟩))
theorem KG{ls:List Lf}{is bg ts:List bj}{nn ns:List Int}(ht:I0 is bg ts)(hn:OP nn ns)(hnn:∀n,n∈nn->ka n)(v:Fd)(hv:zT v):
  ∃c,c∈my (uT ls) (uN ls) (uH ls) ts ns/\wS (rsb ls is bg nn) c v:=by
 have hT:v.isText=true->∃t,t∈ts/\A0 is bg t v.text:=fun h=>zL ht.hi ht.hb v.text (hv.1 h);have hN:v.isNumber=true->∃y,y∈ns/\uV nn y v.number:=fun h=>C1 hn.h0 hn.h1 hn.h2 hn.h3 hnn v.number (hv.2 h)
 have mk:∀(a b c:Bool),∃x,x∈my a b c ts ns/\(a=true->x.isText=v.isText/\(x.isText=true->A0 is bg x.text v.text))/\(b=true->x.isNumber=v.isNumber/\(x.isNumber=true->uV nn x.number v.number))/\(c=true->(x.isText||x.isNumber)=(v.isText||v.isNumber)):=by
  intro a b c;cases hvt:v.isText with
  |true=>
   obtain⟨t,t1,t2⟩:=hT hvt
   have hft:(a||c)=true->ft t∈my a b c ts ns:=fun h=>by
    simp_all[my,bj8]
   cases hvn:v.isNumber with
   |true=>
    obtain⟨y,y1,y2⟩:=hN hvn
    have hfn:(b||c)=true->fn y∈my a b c ts ns:=fun h=>by
     simp_all[my,bj8]
    cases a with
    |true=>
     cases b with
     |true=>
      refine⟨fb t y,?_,fun _=>⟨Y,fun _=>t2⟩,fun _=>⟨Y,fun _=>y2⟩,fun _=>Y⟩;unfold my
      grind
     |false=>grind [ft]
    |false=>
     cases b with
     |true=>grind [fn]
     |false=>
      cases c with
      |true=>grind [ft]
      |false=>simp_all[my]
   |false=>
    cases hac:a||c with
    |true=>grind [ft]
    |false=>
     simp_all[fz,my]
  |false=>
   cases hvn:v.isNumber with
   |true=>
    obtain⟨y,y1,y2⟩:=hN hvn
    have hfn:(b||c)=true->fn y∈my a b c ts ns:=fun h=>by
     simp_all[my,bj8]
    cases hbc:b||c with
    |true=>grind [fn]
    |false=>
     simp_all[fz,my]
   |false=>simp_all[fz,my]
 obtain⟨x,h1,h2,h3,h4⟩:=mk (uT ls) (uN ls) (uH ls);exact⟨x,h1,h2,h3,h4⟩
theorem Oc{a b c:Bool}{ts:List bj}{ns:List Int}(ht:∀x,x∈ts->qY x)(hn:∀x,x∈ns->ka x){x:Fd}(hx:x∈my a b c ts ns):zT x:=by
 unfold my at hx;rcases aq9.1 hx with e|hx
 ·rw[e];exact⟨fun h=>(by cases h),fun h=>(by cases h)⟩
 rcases bu9.1 hx with hx|hx
 ·split at hx
  ·obtain⟨t,h,rfl⟩:=bb9.1 hx;exact⟨fun _=>ht t h,fun h=>(by cases h)⟩
  grind
 rcases bu9.1 hx with hx|hx
 ·split at hx
  ·obtain⟨n,h,rfl⟩:=bb9.1 hx;exact⟨fun h=>(by cases h),fun _=>hn n h⟩
  grind
 ·split at hx
  ·obtain⟨t,h,hx⟩:=ac8.1 hx;obtain⟨n,h2,rfl⟩:=bb9.1 hx;exact⟨fun _=>ht t h,fun _=>hn n h2⟩
  grind
structure Fds(ls:List Lf)(cs:List Fd):Prop where
 rep:∀v,zT v->∃c,c∈cs/\∀l,l∈ls->l.one c=l.one v
 ok:∀c,c∈cs->zT c
 ln:cs.length<=100000000000
theorem L4(F:Nat)(ls:List Lf)(hF:200000000<=F)(hlo:∀l,l∈ls->jB l)(hlen:ls.length<=1500000){sm:List Lf}(hsm:Sm ls sm):∃cs,Bg F (ls.map Lf.row)=some cs/\Fds ls cs:=by
 obtain⟨is,bg,ts,e1,a1,a2,a3,a4⟩:=LG F ls hF hlo hlen hsm;obtain⟨nn,ns,e2,b1,b2,b3⟩:=LF F ls hlo hlen hsm;refine⟨_,L5 F ls ts ns e1 e2 a4 b3,⟨fun v hv=>?_,fun c hc=>?_,?_⟩⟩
 ·obtain⟨c,h1,h2⟩:=KG (ls:=ls) a3 b2 (fun n hn=>by
   obtain⟨l,hl,h5,e⟩:=(b1 n).1 hn;exact e ▸ (hlo l hl).n h5) v hv
  exact⟨c,h1,fun l hl=>zR (NM a1 a2 b1 hl (hlo l hl)) h2⟩
 ·refine Oc (fun x hx=>(a3.ok x hx).elim (fun h=>?_) id) b2.ok hc;obtain⟨l,hl,_,hx⟩:=(a1 x).1 h;exact(hlo l hl).tx x hx
 ·have hm:ts.length*ns.length<=1300000*30000:=Nat.mul_le_mul a4 b3;have hfm:(ts.flatMap fun t=>ns.map (fb t)).length<=ts.length*ns.length:=il _ _ _ fun x _=>by grind
  grind [my]
def kv:Option Bool->Int
 |none=>2
 |some true=>1
 |some false=>0
structure Rz(ns:List bj)(S:List Bool)(I:List Fd)(s:bj->Option Fd):Prop where
 l1:S.length=ns.length
 l2:I.length=ns.length
 at_:∀(i:Nat) (h:i<ns.length),s ns[i]=if S[i]'(by omega)=true then some (I[i]'(by omega)) else none
theorem yZ(F:Nat)(b:Bool):FB F b=some (kv (some b)):=by cases b<;>rfl
theorem D8(tt:aH)(ns:List bj)(cans:List (List Fd))(S:List Bool)(I:List Fd)(s:bj->Option Fd)(hs:oX ns)(hlen:ns.length<=1000)(h:Rz ns S I s):
  ∀t:Tr,t.ok->t.gd->∀F,t.fu+2000<=F->(∀l,l∈t.lvs->l.nm∈ns)->vQ F ⟨tt,ns,cans,S,I⟩ t.toT=some (kv (t.tr3 s)):=Tr.ind fun k nm tx op n ks ih ok hz F hF hm=>by
 rw[Tr.fu] at hF;have hfl:=(iR hz).2;obtain⟨F,rfl⟩:∃G,F=G+1:=⟨F - 1,by omega⟩
 show vg (vQ F) F ⟨tt,ns,cans,S,I⟩ (Tr.mk k nm tx op n ks).toT=_
 have hkk:=Do hz;have hkids:=(Tr.okks ok).2
 have hm':¬(2<=k/\k<=5)->∀t,t∈ks->∀l,l∈t.lvs->l.nm∈ns:=fun hk t ht l hl=>hm l (by
  rw[Tr.lvs];by_cases h1:k=1
  ·grind [Ia]
  ·rw[if_neg h1,if_pos (by omega)];exact jk.2 ⟨t,ht,hl⟩)
 have hkid:¬(2<=k/\k<=5)->∀t,t∈ks->vQ F ⟨tt,ns,cans,S,I⟩ t.toT=some (kv (t.tr3 s)):=fun hk t ht=>ih t ht (Tr.oks_mem (Tr.okks ok).1 ht) (om hfl ht) F (by have:=Tr.fu_mem ht;omega) (hm' hk t ht)
 have hall:¬(2<=k/\k<=5)->∀(m j:Nat),j+m=ks.length->∀A:Option Bool,A≠some false->fj (vQ F) F ⟨tt,ns,cans,S,I⟩ (Tr.mk k nm tx op n ks).toT 0 (fun n20=>some n20) m (j:Int) (kv A)=some (kv (Fr A (Tr.all3 s (ks.drop j)))):=by
  intro hk m
  induction m with
  |zero=>
   intro j hj A hA;rw[fj,al9 (by omega),Tr.all3];cases A with
   |none=>rfl
   |some b=>cases b<;>rfl
  |succ m ihm=>
   intro j hj A hA;have hn:j<ks.length:=by omega
   have hix:cH (Tr.mk k nm tx op n ks).toT.Kids (j:Int)=some ks[j].toK:=gj hn;rw[fj,hix,bt9,Tr.dec,bt9,hkid hk _ (az8 _),bt9,bo8 hn,Tr.all3,az];have hr:=fun B hB=>ihm (j+1) (by omega) B hB;rw[show((j+1:Nat):Int)=(j:Int)+1 from rfl] at hr;cases ks[j].tr3 s with
   |none=>
    show fj _ _ _ _ _ _ _ _ 2=_
    rw[show(2:Int)=kv none from rfl,hr none (by simp)];cases A with
    |none=>cases Tr.all3 s (ks.drop (j+1)) with
     |none=>rfl
     |some b=>cases b<;>rfl
    |some a=>cases a with
     |false=>grind
     |true=>rfl
   |some b=>
    cases b with
    |false=>
     cases A with
     |none=>rfl
     |some a=>cases a with
      |false=>grind
      |true=>rfl
    |true=>exact hr A hA
 have hany:¬(2<=k/\k<=5)->∀(m j:Nat),j+m=ks.length->∀A:Option Bool,A≠some true->fj (vQ F) F ⟨tt,ns,cans,S,I⟩ (Tr.mk k nm tx op n ks).toT 1 (fun n20=>some n20) m (j:Int) (kv A)=some (kv (Qn A (Tr.any3 s (ks.drop j)))):=by
  intro hk m
  induction m with
  |zero=>
   intro j hj A hA;rw[fj,al9 (by omega),Tr.any3];cases A with
   |none=>rfl
   |some b=>cases b<;>rfl
  |succ m ihm=>
   intro j hj A hA;have hn:j<ks.length:=by omega
   have hix:cH (Tr.mk k nm tx op n ks).toT.Kids (j:Int)=some ks[j].toK:=gj hn;rw[fj,hix,bt9,Tr.dec,bt9,hkid hk _ (az8 _),bt9,bo8 hn,Tr.any3,az];have hr:=fun B hB=>ihm (j+1) (by omega) B hB;rw[show((j+1:Nat):Int)=(j:Int)+1 from rfl] at hr;cases ks[j].tr3 s with
   |none=>
    show fj _ _ _ _ _ _ _ _ 2=_
    rw[show(2:Int)=kv none from rfl,hr none (by simp)];cases A with
    |none=>cases Tr.any3 s (ks.drop (j+1)) with
     |none=>rfl
     |some b=>cases b<;>rfl
    |some a=>cases a with
     |true=>grind
     |false=>rfl
   |some b=>
    cases b with
    |true=>
     cases A with
     |none=>rfl
     |some a=>cases a with
      |true=>grind
      |false=>rfl
    |false=>exact hr A hA
 have hleaf:(2<=k/\k<=5)->((Bf F ns nm).bind fun y37=>(cH S (y37.1)).bind fun x39=>if (!x39)=true then some 2
 else (cH I (y37.1)).bind fun x42=>(FF F (Tr.mk k nm tx op n ks).toT x42).bind fun y44=>(FB F y44).bind fun y46=>some y46)=some (kv ((s nm).map (iz k op n tx))):=by
  intro hk;have hnm:nm∈ns:=hm ⟨k,nm,tx,op,n⟩ (by rw[Tr.lvs,if_neg (by omega),if_neg (by omega)];simp);obtain⟨p,hp,e,_,_,h3⟩:=ze F ns nm (by omega) hs (by omega);obtain⟨hpl,hpe⟩:=ba8.1 (h3 hnm);have hat:=h.at_ p hpl;rw[hpe] at hat;have hS:p<S.length:=by rw[h.l1];exact hpl
  have hI:p<I.length:=by rw[h.l2];exact hpl
  rw[e,bt9];dsimp only;rw[bU hS,bt9,hat];cases hb:S[p] with
  |false=>rfl
  |true=>
   have htx:tx.length<=9223372036854775807:=(Tr.okX ok).2.2.1;rw[if_neg (by simp),bU hI,bt9,Mf F _ _ htx (show tx.length<F by omega),bt9,yZ,bt9,if_pos rfl];rfl
 unfold vg;simp only[az];have hK:(Tr.mk k nm tx op n ks).toT.Kind=k:=rfl;have hKl:(Tr.mk k nm tx op n ks).toT.Kids.length=ks.length:=Tr.toKs_len ks;rw[hK,hKl,Tr.tr3];have hk':k=1\/(2<=k/\k<=5)\/k=6\/k=7\/k=8:=by omega
 rcases hk' with e|e|e|e|e
 ·subst e;rfl
 ·have f1:¬((k==1)=true):=by rw[beq_iff_eq];omega
  have f6:¬((k==6)=true):=by rw[beq_iff_eq];omega
  have f7:¬((k==7)=true):=by rw[beq_iff_eq];omega
  have f8:¬((k==8)=true):=by rw[beq_iff_eq];omega
  rw[if_neg f1,if_neg f6,if_neg f7,if_neg f8,if_neg (by omega),if_neg (by omega),if_neg (by omega),if_neg (by omega)];exact hleaf e
 ·subst e;have hk:¬(2<=(6:Int)/\(6:Int)<=5):=by omega
  rw[if_neg (by decide),if_pos (by decide),if_neg (by decide),if_pos rfl];have h1:ks.length=1:=N8 hz rfl;obtain⟨t,rfl⟩:=List.length_eq_one_iff.1 h1;have hix:cH (Tr.mk 6 nm tx op n [t]).toT.Kids 0=some (t.toK):=gj (ks:=[t]) (n:=0) (by simp);rw[hix,bt9,Tr.dec,bt9,hkid hk t (by simp),bt9,Tr.all3,Tr.all3];cases t.tr3 s with
  |none=>rfl
  |some b=>cases b<;>rfl
 ·subst e;have hk:¬(2<=(7:Int)/\(7:Int)<=5):=by omega
  have:=hall hk ks.length 0 (by omega) (some true) (by simp);rw[bn8] at this;rw[if_neg (by decide),if_neg (by decide),if_pos (by decide),if_pos (by decide),if_neg (by decide),if_neg (by decide),if_pos rfl,yZ,bt9,if_pos (by omega),show(((ks.length:Nat):Int)).toNat=ks.length by omega];exact this
 ·subst e;have hk:¬(2<=(8:Int)/\(8:Int)<=5):=by omega
  have:=hany hk ks.length 0 (by omega) (some false) (by simp);rw[bn8] at this;rw[if_neg (by decide),if_neg (by decide),if_neg (by decide),if_pos (by decide),if_neg (by decide),if_neg (by decide),if_neg (by decide),if_pos rfl,yZ,bt9,if_pos (by omega),show(((ks.length:Nat):Int)).toNat=ks.length by omega];exact this
theorem vf(F:Nat)(tt:aH)(ns:List bj)(cans:List (List Fd))(S:List Bool)(I:List Fd)(h1:S.length=ns.length)(h2:I.length=ns.length)(k:Int->Int->Option Bool):∀(m j:Nat),j+m=ns.length->∀a b:Nat,a+m<=1000->b+m<=1000->
  ∃a' b':Nat,jY F ⟨tt,ns,cans,S,I⟩ k m (j:Int) (a:Int) (b:Int)=k (a':Int) (b':Int)/\a'<=a+m/\b'<=b+m
 |0,j,hj,a,b,_,_=>⟨a,b,by rw[jY],by omega,by omega⟩
 |m+1,j,hj,a,b,ha,hb=>by
  have hS:j<S.length:=by omega
  have hI:j<I.length:=by omega
  have wa:bt ((a:Int)+1)=((a+1:Nat):Int):=by rw[cA (by omega) (by omega)];rfl
  have wb:bt ((b:Int)+1)=((b+1:Nat):Int):=by rw[cA (by omega) (by omega)];rfl
  have ih:=fun a b ha hb=>vf F tt ns cans S I h1 h2 k m (j+1) (by omega) a b ha hb;rw[show((j+1:Nat):Int)=(j:Int)+1 from rfl] at ih;rw[jY];simp only[bU hS,bU hI,bt9,az,wa,wb];split
  ·split
   ·split
    ·obtain⟨x,y,e,p,q⟩:=ih (a+1) (b+1) (by omega) (by omega);exact⟨x,y,e,by omega,by omega⟩
    ·obtain⟨x,y,e,p,q⟩:=ih (a+1) b (by omega) (by omega);exact⟨x,y,e,by omega,by omega⟩
   ·split
    ·obtain⟨x,y,e,p,q⟩:=ih a (b+1) (by omega) (by omega);exact⟨x,y,e,by omega,by omega⟩
    ·obtain⟨x,y,e,p,q⟩:=ih a b (by omega) (by omega);exact⟨x,y,e,by omega,by omega⟩
  ·obtain⟨x,y,e,p,q⟩:=ih a b (by omega) (by omega);exact⟨x,y,e,by omega,by omega⟩
theorem zc(F:Nat)(tt:aH)(ns:List bj)(cans:List (List Fd))(S:List Bool)(I:List Fd)(h1:S.length=ns.length)(h2:I.length=ns.length)(hlen:ns.length<=30):Jt F ⟨tt,ns,cans,S,I⟩=some true:=by
 unfold Jt;rw[az];dsimp only;rw[if_pos (by omega),show(((ns.length:Nat):Int)).toNat=ns.length by omega];obtain⟨x,y,e,p,q⟩:=vf F tt ns cans S I h1 h2 (fun(n3:Int) (n4:Int)=>if (decide (n3<=30))=true then some (decide (n4<=30)) else some false) ns.length 0 (by omega) 0 0 (by omega) (by omega);rw[show((0:Nat):Int)=0 from rfl] at e;rw[e,if_pos (decide_eq_true (by omega)),decide_eq_true (by omega)]
theorem Rz.set{ns:List bj}{S:List Bool}{I:List Fd}{s:bj->Option Fd}(h:Rz ns S I s)(hn:ns.Nodup){j:Nat}(hj:j<ns.length)(x:Fd):Rz ns (S.set j true) (I.set j x) (r9 s ns[j] x):=by
 refine⟨by rw[am9];exact h.l1,by rw[am9];exact h.l2,fun i hi=>?_⟩;unfold r9;rw[List.getElem_set,List.getElem_set];by_cases e:j=i
 ·subst e;simp
 ·rw[if_neg (show ¬ns[i]=ns[j] from fun h=>e ((List.getElem_inj hn).1 h).symm),if_neg e,if_neg e];exact h.at_ i hi
section
variable(t:Tr)(ok:t.ok)(hz:t.gd)(ns:List bj)(hs:oX ns)(hlen:ns.length<=17)(hm:∀l,l∈t.lvs->l.nm∈ns)(can:bj->List Fd)(hcan:∀n,(can n).length<=100000000000)
noncomputable abbrev PL(F:Nat)(t:Tr)(ns:List bj)(can:bj->List Fd)(j:Int)(S:List Bool)(I:List Fd):Option (Bool×(List Bool)×(List Fd)):=Cv F j t.toT.Kind t.toT.Name t.toT.Texts t.toT.Op t.toT.N t.toT.Kids ns (ns.map can) S I
include ok hz hs hlen hm hcan
theorem O0:∀(m j:Nat),j+m=ns.length->∀F,t.fu+200000000000+m<=F->∀(S:List Bool) (I:List Fd) (s:bj->Option Fd),Rz ns S I s->(∀i (h:i<S.length),j<=i->S[i]=false)->(∀i (h:i<I.length),j<=i->I[i]=fz)->(∀i (h:i<S.length),i<j->S[i]=true)->
  match sj? (fun s=>t.tr3 s) can (ns.drop j) s with
  |none=>PL F t ns can (j:Int) S I=some (false,S,I)
  |some s'=>∃S' I',PL F t ns can (j:Int) S I=some (true,S',I')/\S'.length=ns.length/\I'.length=ns.length:=by
 intro m
 induction m with
 |zero=>
  intro j hj F hF S I s h hS hI hS2;obtain⟨F,rfl⟩:∃G,F=G+1:=⟨F - 1,by omega⟩;have hk:=D8 t.toT ns (ns.map can) S I s hs (by omega) h t ok hz F (by omega) hm
  have hfull:∃b,t.tr3 s=some b:=by
   refine⟨_,pL (a:=fun n=>(s n).getD fz) t fun l hl=>?_⟩;obtain⟨i,hi,e⟩:=bf9 (hm l hl);have h1:=h.at_ i hi;rw[hS2 i (by rw[h.l1];exact hi) (by omega),if_pos rfl,e] at h1;rw[h1];rfl
  obtain⟨b,hb⟩:=hfull;rw[hb] at hk;have e:PL (F+1) t ns can (j:Int) S I=o7 (Cv F) F (j:Int) t.toT.Kind t.toT.Name t.toT.Texts t.toT.Op t.toT.N t.toT.Kids ns (ns.map can) S I:=rfl;rw[al9 (by omega),sj?];cases b with
  |false=>
   rw[if_neg (by rw[hb];simp)];dsimp only;rw[e,o7,hk,bt9,if_pos (by rfl)]
  |true=>
   rw[if_pos hb];dsimp only;refine⟨S,I,?_,h.l1,h.l2⟩;rw[e,o7,hk,bt9,if_neg (by decide),zc F t.toT ns (ns.map can) S I h.l1 h.l2 (by omega),bt9,if_neg (by simp),if_pos (by rfl)]
 |succ m ih=>
  intro j hj F hF S I s h hS hI hS2;obtain⟨F,rfl⟩:∃G,F=G+1:=⟨F - 1,by omega⟩;have hn:j<ns.length:=by omega
  have hk:=D8 t.toT ns (ns.map can) S I s hs (by omega) h t ok hz F (by omega) hm;have e:PL (F+1) t ns can (j:Int) S I=o7 (Cv F) F (j:Int) t.toT.Kind t.toT.Name t.toT.Texts t.toT.Op t.toT.N t.toT.Kids ns (ns.map can) S I:=rfl;rw[bo8 hn,sj?];cases hb:t.tr3 s with
  |some b=>
   rw[hb] at hk;cases b with
   |false=>
    dsimp only;rw[e,o7,hk,bt9,if_pos (by rfl)]
   |true=>
    dsimp only;refine⟨S,I,?_,h.l1,h.l2⟩;rw[e,o7,hk,bt9,if_neg (by decide),zc F t.toT ns (ns.map can) S I h.l1 h.l2 (by omega),bt9,if_neg (by simp),if_pos (by rfl)]
  |none=>
   rw[hb] at hk;dsimp only;have hSj:j<S.length:=by rw[h.l1];exact hn
   have hIj:j<I.length:=by rw[h.l2];exact hn
   have hnd:ns.Nodup:=hs.imp wL;obtain⟨F',hF'⟩:∃G,F=G+1:=⟨F - 1,by omega⟩
   have hL1:∀k64,pr F S k64 F (j:Int)=k64 (j:Int):=fun k64=>by
    rw[hF',pr,bU hSj,bt9,hS j hSj (ae9 _),if_neg (by simp)]
   have ecan:cH (ns.map can) (j:Int)=some (can ns[j]):=by rw[bU (by simpa using hn)];simp
   -- the rounds over the values
   have hloop:∀(k73:List Bool->List Fd->Option (Bool×(List Bool)×(List Fd))) (d i:Nat),i+d=(can ns[j]).length->∀fuel,d<fuel->∀z:Fd,
     match ((can ns[j]).drop i).findSome? (fun x=>sj? (fun s=>t.tr3 s) can (ns.drop (j+1)) (r9 s ns[j] x)) with
     |none=>∃z',iJ (Cv F) F t.toT.Kind t.toT.Name t.toT.Texts t.toT.Op t.toT.N t.toT.Kids ns (ns.map can) (j:Int) k73 fuel (i:Int) (S.set j true) (I.set j z)=k73 (S.set j true) (I.set j z')
     |some s'=>∃S' I',iJ (Cv F) F t.toT.Kind t.toT.Name t.toT.Texts t.toT.Op t.toT.N t.toT.Kids ns (ns.map can) (j:Int) k73 fuel (i:Int) (S.set j true) (I.set j z)=some (true,S',I')/\S'.length=ns.length/\I'.length=ns.length:=by
    intro k73 d
    induction d with
    |zero=>
     intro i hi fuel hf z;obtain⟨fuel,rfl⟩:∃g,fuel=g+1:=⟨fuel - 1,by omega⟩;rw[show(can ns[j]).drop i=[] from al9 (by omega),List.findSome?_nil];dsimp only;refine⟨z,?_⟩;rw[iJ,ecan,bt9,if_neg (by simp;omega)]
    |succ d ihd=>
     intro i hi fuel hf z;obtain⟨fuel,rfl⟩:∃g,fuel=g+1:=⟨fuel - 1,by omega⟩;have hic:i<(can ns[j]).length:=by omega
     have hcl:=hcan ns[j];have w1:bt ((j:Int)+1)=((j+1:Nat):Int):=by rw[cA (by omega) (by omega)];rfl
     have w2:bt ((i:Int)+1)=((i+1:Nat):Int):=by rw[cA (by omega) (by omega)];rfl
     have hrec:=ih (j+1) (by omega) F (by omega) (S.set j true) (I.set j (can ns[j])[i]) (r9 s ns[j] (can ns[j])[i]) (h.set hnd hn _) (fun q hq hle=>by
      rw[am9] at hq;rw[List.getElem_set,if_neg (by omega)];exact hS q hq (by omega)) (fun q hq hle=>by
      rw[am9] at hq;rw[List.getElem_set,if_neg (by omega)];exact hI q hq (by omega)) (fun q hq hle=>by
      rw[am9] at hq;rw[List.getElem_set];by_cases e:j=q
      ·rw[if_pos e]
      ·rw[if_neg e];exact hS2 q hq (by omega))
     rw[bo8 hic,List.findSome?_cons]
     have hstep:iJ (Cv F) F t.toT.Kind t.toT.Name t.toT.Texts t.toT.Op t.toT.N t.toT.Kids ns (ns.map can) (j:Int) k73 (fuel+1) (i:Int) (S.set j true) (I.set j z)=(PL F t ns can ((j+1:Nat):Int) (S.set j true) (I.set j (can ns[j])[i])).bind fun y91=>if (y91.2.2).length=(I.set j z).length then if (y91.1)=true then some (true,(y91.2.1),(y91.2.2))
      else iJ (Cv F) F t.toT.Kind t.toT.Name t.toT.Texts t.toT.Op t.toT.N t.toT.Kids ns (ns.map can) (j:Int) k73 fuel ((i+1:Nat):Int) (y91.2.1) (y91.2.2) else none:=by
      rw[iJ,ecan,bt9,if_pos (decide_eq_true (by omega)),bt9,bU hic,bt9,bU (show j<(I.set j z).length by rw[am9];exact hIj),bt9,w1,w2,show((j:Int)).toNat=j from rfl,List.set_set]
     rw[hstep];cases hfd:sj? (fun s=>t.tr3 s) can (ns.drop (j+1)) (r9 s ns[j] (can ns[j])[i]) with
     |some s'=>
      rw[hfd] at hrec;dsimp only at hrec ⊢;obtain⟨S',I',e1,e2,e3⟩:=hrec;rw[e1,bt9];dsimp only;rw[if_pos (by rw[am9,e3,h.l2]),if_pos rfl];exact⟨S',I',Y,e2,e3⟩
     |none=>
      rw[hfd] at hrec;dsimp only at hrec ⊢;rw[hrec,bt9];dsimp only;rw[if_pos (by rw[am9,am9]),if_neg (by simp)];exact ihd (i+1) (by omega) fuel (by omega) _
   have hcl:=hcan ns[j];have:=hloop (fun l74 l75=>(cH l74 (j:Int)).bind fun x95=>(cH l75 (j:Int)).bind fun x97=>some (false,(l74.set ((j:Int)).toNat false),(l75.set ((j:Int)).toNat (ah.mk false false ([]:B8) 0)))) (can ns[j]).length 0 (by omega) F (by omega) I[j];rw[bn8,List.set_getElem_self,show((0:Nat):Int)=0 from rfl] at this
   have hB:PL (F+1) t ns can (j:Int) S I=iJ (Cv F) F t.toT.Kind t.toT.Name t.toT.Texts t.toT.Op t.toT.N t.toT.Kids ns (ns.map can) (j:Int) (fun l74 l75=>(cH l74 (j:Int)).bind fun x95=>(cH l75 (j:Int)).bind fun x97=>some (false,(l74.set ((j:Int)).toNat false),(l75.set ((j:Int)).toNat (ah.mk false false ([]:B8) 0)))) F 0 (S.set j true) I:=by
    rw[e,o7,hk,bt9,if_neg (by decide),zc F t.toT ns (ns.map can) S I h.l1 h.l2 (by omega),bt9,if_neg (by simp),if_neg (by decide),az,hL1,bU hSj,bt9,az];rfl
   cases hfd:(can ns[j]).findSome? (fun x=>sj? (fun s=>t.tr3 s) can (ns.drop (j+1)) (r9 s ns[j] x)) with
   |some s'=>
    rw[hfd] at this;dsimp only at this ⊢;rw[hB];exact this
   |none=>
    rw[hfd] at this;dsimp only at this ⊢;obtain⟨z',hz'⟩:=this;rw[hB,hz',bU (show j<(S.set j true).length by rw[am9];exact hSj),bt9,bU (show j<(I.set j z').length by rw[am9];exact hIj),bt9,show((j:Int)).toNat=j from rfl,List.set_set,List.set_set]
    have q1:S.set j false=S:=by
     have:=hS j hSj (ae9 _);rw[<-this];exact List.set_getElem_self hSj
    have q2:I.set j (ah.mk false false ([]:B8) 0)=I:=by
     have:=hI j hIj (ae9 _);rw[show(ah.mk false false ([]:B8) 0)=I[j] from this.symm];exact List.set_getElem_self hIj
    rw[q1,q2]
end
end Go.Proofs.YtelmfadihfcgnaaGreatDoor
