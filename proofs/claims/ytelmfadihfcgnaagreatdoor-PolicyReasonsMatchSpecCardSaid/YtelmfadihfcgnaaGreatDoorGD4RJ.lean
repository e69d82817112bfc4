/- Part of the proof. -/
import Derived.Test.YtelmfadihfcgnaaGreatDoorGD4RB
set_option linter.unusedSimpArgs false
set_option linter.unusedVariables false
namespace Go.Proofs.YtelmfadihfcgnaaGreatDoor
open Go Go.Pv
set_option maxRecDepth 100000
theorem ou{ls:List Lf}{j:Nat}(h:j<ls.length):cn (ls.map Lf.row) (j:Int)=some ls[j].row:=by
 simp_all[bF]
def uT(ls:List Lf):Bool:=ls.any fun l=>l.k==2||l.k==3
def uN(ls:List Lf):Bool:=ls.any fun l=>l.k==5
def uH(ls:List Lf):Bool:=ls.any fun l=>l.k==4
theorem GF(F:Nat)(ls:List Lf):LA F (ls.map Lf.row)=some (uT ls,uN ls,uH ls):=by
 unfold LA;rw[aF,bf8,show(((ls.length:Nat):Int)).toNat=ls.length by omega]
 have hloop:∀m j:Nat,j+m=ls.length->∀a b c:Bool,lX F (ls.map Lf.row) (fun(b3:Bool) (b4:Bool) (b5:Bool)=>some (b3,b4,b5)) m (j:Int) a b c=some (a||uT (ls.drop j),b||uN (ls.drop j),c||uH (ls.drop j)):=by
  intro m
  induction m with
  |zero=>
   simp_all[lX,uT,uN,uH]
  |succ m ihm=>
   intro j hj a b c;have hn:j<ls.length:=by omega
   have hstep:=fun a b c=>ihm (j+1) (by omega) a b c;rw[show((j+1:Nat):Int)=(j:Int)+1 from rfl] at hstep;rw[lX,aF,br8 hn];simp only[ou hn,Lf.dec,bw9,hstep];unfold uT uN uH;simp only[cc8];have e:ls[j].t.Kind=ls[j].k:=rfl
   grind
 have:=hloop ls.length 0 (by omega) false false false
 grind
theorem ua:∀(ls:List Lf) (all:tB) (n:ba),(∀l,l∈ls->2<=l.k/\l.k<=5)->(ek (ls.foldl jU all) n).asText=((ek all n).asText||uT (ls.filter fun l=>l.nm==n))/\(ek (ls.foldl jU all) n).asNo=((ek all n).asNo||uN (ls.filter fun l=>l.nm==n))/\(ek (ls.foldl jU all) n).has=((ek all n).has||uH (ls.filter fun l=>l.nm==n))
 |[],all,n,_=>by simp[uT,uN,uH]
 |l::r,all,n,h=>by
  obtain⟨h1,h2,h3⟩:=ua r (jU all l) n fun m hm=>h m (by simp[hm]);have hk:=h l (by simp);rw[bt9,h1,h2,h3,ll,aa8];by_cases e:l.nm=n
  ·rw[if_pos e,if_pos (by grind),e];unfold uT uN uH rq;simp only[cc8];by_cases k2:l.k=2
   ·simp[k2]
   ·by_cases k3:l.k=3
    ·simp[k3]
    ·by_cases k4:l.k=4
     ·simp[k4]
     grind
  grind
theorem zu(ls:List Lf)(hz:∀l,l∈ls->iX l)(n:ba):(ek (c8 ls) n).asText=uT (ls.filter fun l=>l.nm==n)/\(ek (c8 ls) n).asNo=uN (ls.filter fun l=>l.nm==n)/\(ek (c8 ls) n).has=uH (ls.filter fun l=>l.nm==n):=by
 obtain⟨h1,h2,h3⟩:=ua ls [] n fun l hl=>(hz l hl).k;unfold c8;rw[h1,h2,h3];exact⟨Y,Y,Y⟩
theorem Hh(ls:List Lf)(n:ba):G7 ls n=((ls.filter fun l=>l.nm==n).map lw).sum:=by
 unfold G7
 induction ls<;>grind
theorem vd(F:Nat)(ls:List Lf)(k:Int->Option Bool)(hl:∀l,l∈ls->iX l)(hlen:ls.length<=1500000):∀(m j:Nat),j+m=ls.length->∀w:Nat,w<=10+100*j->
  gk F (ls.map Lf.row) k ((ls.drop j).map Lf.row) (j:Int) (w:Int)=k ((w+((ls.drop j).map lw).sum:Nat):Int)
 |0,j,hj,w,hw=>by
  simp_all[gk]
 |m+1,j,hj,w,hw=>by
  have hn:j<ls.length:=by omega
  have ho:=hl ls[j] (ba8 _);have hk:=ho.k;have hlen2:=ho.len;have hb:=Jx ho;have ih:=fun w hw=>vd F ls k hl hlen m (j+1) (by omega) w hw;rw[show((j+1:Nat):Int)=(j:Int)+1 from rfl] at ih;rw[br8 hn,bi8,gk,bi8,List.sum_cons];simp only[ou hn,Lf.dec,bw9,aF]
  show(if (ls[j].k==2)=true then gk F (ls.map Lf.row) k ((ls.drop (j+1)).map Lf.row) ((j:Int)+1) (bh ((w:Int)+((ls[j].tx.length:Nat):Int))) else if (ls[j].k==3)=true then gk F (ls.map Lf.row) k ((ls.drop (j+1)).map Lf.row) ((j:Int)+1) (bh ((w:Int)+(bh (2*((ls[j].tx.length:Nat):Int))))) else if (ls[j].k==5)=true then gk F (ls.map Lf.row) k ((ls.drop (j+1)).map Lf.row) ((j:Int)+1) (bh ((w:Int)+2)) else gk F (ls.map Lf.row) k ((ls.drop (j+1)).map Lf.row) ((j:Int)+1) (w:Int))=_
  have fin:∀v:Nat,lw ls[j]=v->∀x:Int,x=((w+v:Nat):Int)->gk F (ls.map Lf.row) k ((ls.drop (j+1)).map Lf.row) ((j:Int)+1) x=k ((w+(lw ls[j]+((ls.drop (j+1)).map lw).sum):Nat):Int):=by
   intro v hv x hx;rw[hx,ih (w+v) (by omega),hv,af9]
  unfold lw at fin hb;by_cases k2:ls[j].k=2
  ·rw[if_pos (by grind)];rw[if_pos k2] at fin hb;rw[fin _ rfl _ (by grind [cm])]
   congr 1
   unfold lw
   grind
  rw[if_neg (by grind)];rw[if_neg k2] at fin hb;by_cases k3:ls[j].k=3
  ·rw[if_pos (by grind)];rw[if_pos k3] at fin hb;rw[fin _ rfl _ (by grind [cm])]
   congr 1
   unfold lw
   grind
  rw[if_neg (by grind)];rw[if_neg k3] at fin hb;by_cases k5:ls[j].k=5
  ·rw[if_pos (by grind)];rw[if_neg (by omega)] at fin hb;rw[fin _ rfl _ (by grind [cm])]
   congr 1
   unfold lw
   grind
  ·rw[if_neg (by grind)];have k4:ls[j].k=4:=by omega
   rw[if_pos k4] at fin hb;rw[fin _ rfl _ (by omega)]
   congr 1
   unfold lw
   grind
def gA(w:ba->Int):List ba->Int
 |[]=>1
 |n::r=>w n*gA w r
theorem rL{w:ba->Int}{l l':List ba}(h:l.Perm l'):gA w l=gA w l':=by
 induction h<;>grind [gA]
theorem um{w:ba->Int}:∀{l:List ba},(∀n,n∈l->2<=w n)->((2 ^ l.length:Nat):Int)<=gA w l
 |[],_=>by simp[gA]
 |n::r,h=>by
  have h1:=h n (by simp);have h2:=um (l:=r) fun m hm=>h m (by simp[hm])
  have h3:(1:Int)<=((2 ^ r.length:Nat):Int):=by
   have:=Nat.one_le_two_pow (n:=r.length);omega
  rw[gA,bu8,Nat.pow_succ,an8];have:=Int.mul_le_mul h1 h2 (by omega) (by omega)
  grind
theorem Ck{w:ba->Int}{l:List ba}(h:∀n,n∈l->2<=w n):1<=gA w l:=by
 have h1:=um h;have:=Nat.one_le_two_pow (n:=l.length);omega
def Dn(t:Tr)(n:ba):Int:=Dm (ek (c8 t.lvs) n)
theorem AV{t:Tr}(hg:fE t.lvs)(n:ba):2<=Dn t n/\Dn t n<=600003:=by
 have h1:=((sr hg).ok n).wt
 grind [AW,Dn,Dm]
theorem HG{t:Tr}(hg:fE t.lvs):fH (c8 t.lvs)=gA (Dn t) ((c8 t.lvs).map (·.1)):=by
 have:∀l:tB,(∀p,p∈l->p∈c8 t.lvs)->fH l=gA (Dn t) (l.map (·.1)):=by
  intro l
  induction l with
  |nil=>intro _;rfl
  |cons p r ih=>
   intro h;rw[fH,bi8,gA,ih fun q hq=>h q (by simp[hq])]
   congr 1
   unfold B6;rw[Js hg (h p (by simp))];rfl
 grind
theorem xB(t:Tr)(hz:t.gd)(n:ba):(ek (c8 t.lvs) n).asText=uT (qz t n)/\(ek (c8 t.lvs) n).asNo=uN (qz t n)/\(ek (c8 t.lvs) n).has=uH (qz t n):=zu t.lvs (vP t hz) n
theorem KO{ls:List Lf}(hg:fE ls){n:ba}(h:n∈rQ ls):n≠[]:=by
 obtain⟨l,hl,e⟩:=(qN hg).1 h;exact e ▸ rU (hg.1 l hl).nm
theorem AH(t:Tr)(ok:t.ok)(hz:t.gd)(hc:t.cnt<=1500000)(F:Nat)(hF:t.fu+200000000<=F):
  ∃ns,C8 F t.toT []=some ns/\kX ns/\∀y,y∈ns<->∃l,l∈t.lvs/\l.nm=y:=by
 obtain⟨ns,e,h1,h2,_⟩:=LS t ok hz F hF [] (by simp) (by simp;omega)
 grind
theorem Bj{t:Tr}(hg:fE t.lvs){ns:List ba}(h1:kX ns)(h2:∀y,y∈ns<->∃l,l∈t.lvs/\l.nm=y):ns.Perm (rQ t.lvs):=
 (List.perm_ext_iff_of_nodup (h1.imp uU) (uv hg)).2 fun y=>by rw[h2,qN hg]
theorem ve(F:Nat)(t:Tr)(ok:t.ok)(hz:t.gd)(hc:t.cnt<=1500000)(hg:fE t.lvs)(hF:t.fu+200000000<=F)(ns:List ba)(hns:∀n,n∈ns->n≠[])(hlen:ns.length<=6000):
  ∀(fuel j:Nat),ns.length<fuel+j->j<=ns.length->∀p:Int,1<=p->p<=200000*600003->
  iR F t.toT ns (fun(n5:Int)=>some (decide (n5>200000))) fuel p (j:Int)=some (decide (200000<p*gA (Dn t) (ns.drop j)))
 |0,j,h,h2,p,_,_=>by omega
 |fuel+1,j,h,h2,p,hp1,hp2=>by
  rw[iR];have hpos:1<=gA (Dn t) (ns.drop j):=Ck fun n _=>(AV hg n).1;by_cases hj:j<ns.length
  ·rw[if_pos (decide_eq_true (by omega))];by_cases hp:p<=200000
   ·rw[if_pos (decide_eq_true hp),aF,bF hj,bw9,GG ns[j] (hns _ (ba8 _)) t ok hz hc F (by omega),bw9,aF];have hlo:∀l,l∈qz t ns[j]->iX l:=fun l hl=>vP t hz l (q9.1 hl).1;have hab:=rc t ns[j]
    have hw:=vd F (qz t ns[j]) (fun n19=>(LA F ((qz t ns[j]).map Lf.row)).bind fun y43=>if (y43.2.2)=true then iR F t.toT ns (fun(n5:Int)=>some (decide (n5>200000))) fuel (bh (p*(bh (n19+1)))) (bh ((j:Int)+1))
     else if (y43.1)=true then jn (fun(n48:Int)=>iR F t.toT ns (fun(n5:Int)=>some (decide (n5>200000))) fuel (bh (p*n48)) (bh ((j:Int)+1))) (fun k47=>if (y43.2.1)=true then k47 (bh (n19+1))
     else k47 n19)
     else iR F t.toT ns (fun(n5:Int)=>some (decide (n5>200000))) fuel (bh (p*n19)) (bh ((j:Int)+1))) hlo (by omega) (qz t ns[j]).length 0 (by omega) 2 (by omega)
    rw[bq9] at hw;rw[show((0:Nat):Int)=0 from rfl,show((2:Nat):Int)=2 from rfl] at hw;rw[hw,GF,bw9,aF];dsimp only;have hsm:((qz t ns[j]).map lw).sum=G7 t.lvs ns[j]:=(Hh _ _).symm;rw[hsm];have h6:=AW hg ns[j];have hwt:=((sr hg).ok ns[j]).wt;obtain⟨f1,f2,f3⟩:=xB t hz ns[j]
    have fin:∀x:Int,x=Dn t ns[j]->iR F t.toT ns (fun(n5:Int)=>some (decide (n5>200000))) fuel (bh (p*x)) (bh ((j:Int)+1))=some (decide (200000<p*gA (Dn t) (ns.drop j))):=by
     intro x hx;obtain⟨r1,r2⟩:=AV hg ns[j];have q1:1*1<=p*x:=Int.mul_le_mul hp1 (by omega) (by omega) (by omega);have q2:p*x<=200000*600003:=Int.mul_le_mul hp (by omega) (by omega) (by omega);rw[cm (n:=p*x) (by omega) (by omega),cm (n:=(j:Int)+1) (by omega) (by omega),show((j:Int)+1)=((j+1:Nat):Int) from rfl,ve F t ok hz hc hg hF ns hns hlen fuel (j+1) (by omega) (by omega) _ (by omega) (by omega),br8 hj,gA,hx,Int.mul_assoc]
    unfold Dn Dm at fin;rw[f1,f2,f3,hwt] at fin;cases e3:uH (qz t ns[j]) with
    |true=>
     rw[if_pos rfl];exact fin _ (by rw[e3,Bool.true_or,if_pos Y,cm (by omega) (by omega)];omega)
    |false=>
     rw[if_neg (by simp)];cases e1:uT (qz t ns[j]) with
     |true=>
      rw[if_pos rfl];cases e2:uN (qz t ns[j]) with
      |true=>
       rw[if_pos rfl];exact fin _ (by rw[e3,e1,e2,if_pos (by rfl),cm (by omega) (by omega)];omega)
      |false=>
       rw[if_neg (by simp)];exact fin _ (by grind)
     |false=>
      rw[if_neg (by simp)];exact fin _ (by grind)
   ·rw[if_neg (by grind)];have:p*1<=p*gA (Dn t) (ns.drop j):=Int.mul_le_mul_of_nonneg_left hpos (by omega)
    grind
  simp_all[if_neg,al9,gA]
theorem GO(t:Tr)(ok:t.ok)(hz:t.gd)(hc:t.cnt<=1500000)(hg:fE t.lvs)(F:Nat)(hF:t.fu+200000000<=F):NP F t.toT=some (!yr t.lvs):=by
 obtain⟨ns,e,h1,h2⟩:=AH t ok hz hc F hF;have h2:=Bj hg h1 h2;have hl:=qO t.lvs;have hlen:ns.length<=6000:=by rw[h2.length_eq,hl];have:=(sr hg).ln;have:=hg.2;omega
 unfold NP yr;rw[e,bw9,aF,show(0:Int)=((0:Nat):Int) from rfl,ve F t ok hz hc hg hF ns (fun n hn=>KO hg (h2.mem_iff.1 hn)) hlen F 0 (by omega) (by omega) 1 (by omega) (by omega),bq9,Int.one_mul,rL h2,HG hg];unfold rQ;rw[rL (cZ ((c8 t.lvs).map (·.1)))]
 congr 1
 grind
theorem Io{n:Nat}{bg:List ba}{x:ba}{c:UInt8}(h:zl n bg x=false)(hn:n<=x.length):zl n bg (x++[c])=decide (x++[c]∈bg):=by
 by_cases hm:x++[c]∈bg
 ·rw[decide_eq_true hm];unfold zl;rw[cd9];exact⟨_,hm,by rw[ap9,decide_eq_true_eq,mL];grind⟩
 ·rw[decide_eq_false hm];rw[fC] at h ⊢;intro b hb hl hp;rcases List.prefix_concat_iff.1 hp with e|hp<;>simp_all
theorem te(F:Nat)(n0:Nat)(a2:List ba)(x:ba)(k:List ba->Option (ba×Bool))(h2:kX a2)(hl2:a2.length<=1000000)(hF:a2.length<F)(hx:x.length<1000)(hb:zl n0 a2 x=false)(hn:n0<=x.length):∀(d c:Nat),c+d=127->32<=c->∀fuel,d<fuel->∀l:List ba,l.length+d<=100000000->
  gw F a2 x k fuel (c:Int) l=k (l++eh n0 a2 x c)
 |0,c,hc,h32,fuel,hf,l,hl=>by
  obtain⟨fuel,rfl⟩:∃g,fuel=g+1:=⟨fuel - 1,by omega⟩<;>simp_all[eh,gw]
 |d+1,c,hc,h32,fuel,hf,l,hl=>by
  obtain⟨fuel,rfl⟩:∃g,fuel=g+1:=⟨fuel - 1,by omega⟩;have hw:=xo ⟨c,by omega⟩;dsimp only at hw;have hch:(([(c:Int)]:List Int).map fun n=>UInt8.ofNat n.toNat)=[UInt8.ofNat c]:=rfl;rw[gw,if_pos (decide_eq_true (by omega)),if_pos (decide_eq_true (by omega)),hch,if_pos (by simp;omega),AE F a2 _ (by omega) h2 hF,bw9,aF,hw,r6 (by omega),Io hb hn];have ih:=te F n0 a2 x k h2 hl2 hF hx hb hn d (c+1) (by omega) (by omega) fuel (by omega)
  grind
theorem xa(F:Nat)(a2:List ba)(x:ba)(k:List ba->Option (ba×Bool))(hx:¬x.length<1000)(fuel:Nat)(hf:0<fuel)(l:List ba):gw F a2 x k fuel 32 l=k l:=by
 obtain⟨fuel,rfl⟩:∃g,fuel=g+1:=⟨fuel - 1,by omega⟩;rw[gw,if_pos (by decide),if_neg (by simp;omega)]
structure Qr(a1:ba)(a2 a3:List ba)(l:List ba)(n:Nat):Prop where
 nd:l.Nodup
 hd:l[0]? = some a1
 ok:∀q,q∈l->a1 <+: q/\pS q/\zl a1.length a2 q=false
 par:∀j q,l[j]? = some q->0<j->∃i p c,i<n/\l[i]? = some p/\q=p++[c]
 cl:∀j q,j<n->l[j]? = some q->q∈a3/\(q.length<1000->∀y,y∈eh a1.length a2 q 32->y∈l)
 ln:l.length<=1+95*n
theorem Qr.len{a1:ba}{a2 a3 l:List ba}{n:Nat}(h:Qr a1 a2 a3 l n)(hn:n<=l.length):n<=a3.length:=by
 have:=io (l:=l.take n) (m:=a3) (h.nd.sublist (List.take_sublist _ _)) fun y hy=>by
  obtain⟨j,hj,e⟩:=bg9 hy;rw[List.getElem_take] at e;rw[bg8] at hj;exact(h.cl j y (by omega) (by grind)).1
 grind
theorem nR(F:Nat)(a1:ba)(a2 a3:List ba)(k4:Option (ba×Bool))(h2:kX a2)(h3:kX a3)(hF:200<=F)(hF2:a2.length<F)(hF3:a3.length<F)(ha2:a2.length<=1000000)(ha:a3.length<=1000000):∀(fuel n:Nat) (l:List ba),Qr a1 a2 a3 l n->n<=l.length->a3.length+2<=n+fuel->
  (∃t,hJ F a2 a3 k4 fuel (l.drop n)=some (t,true)/\dR a3 a2 a1 t)\/(hJ F a2 a3 k4 fuel (l.drop n)=k4/\∃l',Qr a1 a2 a3 l' l'.length)
 |0,n,l,h,hn,hf=>by have:=h.len hn;omega
 |fuel+1,n,l,h,hn,hf=>by
  have hll:=h.len hn;have hln:=h.ln;rw[hJ];by_cases hnl:n<l.length
  ·have hd:l.drop n=l[n]::l.drop (n+1):=br8 hnl;have hx:l[n]? = some l[n]:=ax8 hnl;obtain⟨x,hxe⟩:∃x,x=l[n]:=⟨_,rfl⟩;rw[<-hxe] at hx hd;have hxm:=aw8 hx;obtain⟨o1,o2,o3⟩:=h.ok x hxm;rw[if_pos (decide_eq_true (by grind)),aF,hd,show cn (x::l.drop (n+1)) 0=some x from rfl,bw9,if_pos (by simp),AE F a3 x (by omega) h3 hF3,bw9,List.drop_succ_cons,bq9];by_cases hx3:x∈a3
   ·rw[decide_eq_true hx3,if_neg (by simp),aF];have hxl:x.length<=1000:=o2.1;by_cases h1000:x.length<1000
    ·have hin:=te F a1.length a2 x (fun l17=>(fun l9=>hJ F a2 a3 k4 fuel l9) l17) h2 ha2 hF2 h1000 o3 o1.length_le 95 32 rfl (by omega) F (by omega) (l.drop (n+1)) (by grind);rw[show((32:Nat):Int)=32 from rfl] at hin;rw[hin];dsimp only
     have hok:∀y,y∈eh a1.length a2 x 32->a1 <+: y/\pS y/\zl a1.length a2 y=false:=by
      intro y hy;obtain⟨⟨c,c1,c2,rfl⟩,hb⟩:=gD.1 hy;refine⟨o1.trans (List.prefix_append _ _),⟨by simp;omega,fun d hd=>?_⟩,hb⟩;rcases bx9.1 hd with hd|hd
      ·exact o2.2 d hd
      ·grind
     have hkl:=Fx a1.length a2 x;rw[show l.drop (n+1)++eh a1.length a2 x 32=(l++eh a1.length a2 x 32).drop (n+1) by grind];refine nR F a1 a2 a3 k4 h2 h3 hF hF2 hF3 ha2 ha fuel (n+1) (l++eh a1.length a2 x 32) ⟨?_,?_,fun q hq=>?_,fun j q hj h0=>?_,fun j q hj hq=>?_,by grind⟩ (by simp;omega) (by omega)
     ·rw[bx8];refine⟨h.nd,rZ _ _ _,fun a hal b hbk e=>?_⟩;subst e;obtain⟨⟨c,c1,c2,rfl⟩,hb⟩:=gD.1 hbk;obtain⟨j,hj⟩:=bb9 hal;by_cases h0:j=0
      ·subst h0;rw[h.hd] at hj
       grind
      ·obtain⟨i,p,d,g2,g3,g4⟩:=h.par j _ hj (by omega);have e2:=List.append_inj' g4 rfl;rw[<-e2.1] at g3;have hi:i<l.length:=(bb8.1 g3).1;have:=(bm8 hi h.nd).1 (g3.trans hx.symm);omega
     ·rw[as9 (by grind)];exact h.hd
     ·rcases bx9.1 hq with hq|hq
      ·exact h.ok q hq
      grind
     ·by_cases hjl:j<l.length
      ·rw[as9 hjl] at hj;obtain⟨i,p,c,g2,g3,g4⟩:=h.par j q hj h0<;>grind
      ·rw[as8 (by omega)] at hj;have hq:=aw8 hj;obtain⟨⟨c,c1,c2,rfl⟩,hb⟩:=gD.1 hq;exact⟨n,x,c,by omega,by grind,rfl⟩
     ·by_cases e:j=n
      ·grind
      ·rw[as9 (by omega)] at hq;obtain⟨g1,g2⟩:=h.cl j q (by omega) hq<;>simp_all
    ·rw[xa F a2 x _ h1000 F (by omega)];dsimp only;refine nR F a1 a2 a3 k4 h2 h3 hF hF2 hF3 ha2 ha fuel (n+1) l ⟨h.nd,h.hd,h.ok,fun j q hj h0=>?_,fun j q hj hq=>?_,by omega⟩ hnl (by omega)
     ·obtain⟨i,p,c,g2,g3⟩:=h.par j q hj h0<;>grind
     ·by_cases e:j=n
      ·grind
      ·exact h.cl j q (by omega) hq
   ·rw[decide_eq_false hx3,if_pos (by simp)];exact .inl ⟨x,Y,o1,o2,hx3,fC.1 o3⟩
  grind
theorem Qr.none{a1:ba}{a2 a3 l:List ba}(h:Qr a1 a2 a3 l l.length)(t:ba):¬dR a3 a2 a1 t:=by
 intro hf
 have key:∀k,a1.length+k<=t.length->t.take (a1.length+k)∈l:=by
  intro k
  induction k with
  |zero=>
   intro _;rw[bd9,<-List.prefix_iff_eq_take.1 hf.pre];exact aw8 h.hd
  |succ k ih=>
   intro hk;have hp:=ih (by omega);obtain⟨j,hj⟩:=bb9 hp;have hlt:a1.length+k<t.length:=by omega
   obtain⟨_,g⟩:=h.cl j _ (bb8.1 hj).1 hj;have hlen:(t.take (a1.length+k)).length<1000:=by have:=hf.ok.1;simp;omega
   refine g hlen _ (gD.2 ⟨⟨t[a1.length+k],?_,?_,?_⟩,fC.2 fun b hb hl hp=>?_⟩)
   ·exact(hf.ok.2 _ (ba8 hlt)).1
   ·exact(hf.ok.2 _ (ba8 hlt)).2
   ·grind [List.take_succ_eq_append_getElem]
   ·exact hf.no b hb hl (hp.trans (List.take_prefix _ _))
 have hle:=hf.pre.length_le;have:=key (t.length - a1.length) (by omega);rw[show a1.length+(t.length - a1.length)=t.length by omega,List.take_length] at this;obtain⟨j,hj⟩:=bb9 this;exact hf.not (h.cl j t (bb8.1 hj).1 hj).1
theorem IP(F:Nat)(a1:ba)(a2 a3:List ba)(h2:kX a2)(h3:kX a3)(hF2:a2.length<F)(hF:a3.length+200<=F)(ha2:a2.length<=1000000)(ha:a3.length<=1000000)(h1:pS a1):
  (∃t,AP F a1 a2 a3=some (t,true)/\dR a3 a2 a1 t)\/(AP F a1 a2 a3=some ([],false)/\∀t,¬dR a3 a2 a1 t):=by
 have hb:zl a1.length a2 a1=false:=fC.2 fun b _ hl hp=>by grind
 have h0:Qr a1 a2 a3 [a1] 0:=⟨by simp,rfl,fun q hq=>by grind,fun j q hj h0=>by
  grind,fun j q hj=>by omega,by simp⟩
 rcases nR F a1 a2 a3 (some ([],false)) h2 h3 (by omega) hF2 (by omega) ha2 ha F 0 [a1] h0 (by simp) (by omega) with ⟨t,e,hf⟩|⟨e,l',hl⟩
 ·simp_all[AP,aF]
 ·rw[bq9] at e;exact .inr ⟨by simp_all[AP,aF],hl.none⟩
def FB(ls:List Lf)(x:ba):Prop:=∃l,l∈ls/\l.k=2/\x∈l.tx
def Gj(ls:List Lf)(x:ba):Prop:=∃l,l∈ls/\l.k≠2/\x∈l.tx
theorem nW(F:Nat)(ls:List Lf)(j:Nat)(hj:j<ls.length)(k:List ba->List ba->Option (List ba))(hF:200000000<=F)(htx:ls[j].tx.length<=50):∀(fuel i:Nat),ls[j].tx.length<fuel+i->i<=ls[j].tx.length->∀A B:List ba,kX A->kX B->A.length+B.length+(ls[j].tx.length - i)<=80000000->
  ∃A' B',kE F (ls.map Lf.row) (j:Int) k fuel A B (i:Int)=k A' B'/\kX A'/\kX B'/\(∀x,x∈A'<->x∈A\/(ls[j].k=2/\x∈ls[j].tx.drop i))/\(∀x,x∈B'<->x∈B\/(ls[j].k≠2/\x∈ls[j].tx.drop i))/\A'.length+B'.length<=A.length+B.length+(ls[j].tx.length - i)
 |0,i,h,h2,A,B,_,_,_=>by omega
 |fuel+1,i,h,h2,A,B,hA,hB,hl=>by
  rw[kE];simp only[ou hj,Lf.dec,bw9]
  show ∃A' B',(if (decide ((i:Int)<((ls[j].tx.length:Nat):Int)))=true then _ else _)=_/\_
  by_cases hi:i<ls[j].tx.length
  ·rw[if_pos (decide_eq_true (by omega)),aF];have hix:cn ls[j].t.Texts (i:Int)=some ls[j].tx[i]:=bF hi;rw[hix];simp only[bw9];have hw:bh ((i:Int)+1)=((i+1:Nat):Int):=by rw[cm (by omega) (by omega)];rfl
   rw[hw,show ls[j].t.Kind=ls[j].k from rfl];by_cases k2:ls[j].k=2
   ·rw[if_pos (by grind)];obtain⟨A1,e1,p1,p2,p3⟩:=ri F A ls[j].tx[i] (by omega) hA (by omega);obtain⟨A',B',g1,g2,g3,g4,g5,g6⟩:=nW F ls j hj k hF htx fuel (i+1) (by omega) (by omega) A1 B p1 hB (by omega);refine⟨A',B',by grind,g2,g3,fun x=>?_,fun x=>?_,by omega⟩
    ·grind [List.drop_eq_getElem_cons]
    grind
   ·rw[if_neg (by grind)];obtain⟨B1,e1,p1,p2,p3⟩:=ri F B ls[j].tx[i] (by omega) hB (by omega);obtain⟨A',B',g1,g2,g3,g4,g5,g6⟩:=nW F ls j hj k hF htx fuel (i+1) (by omega) (by omega) A B1 hA p1 (by omega);refine⟨A',B',by grind,g2,g3,fun x=>?_,fun x=>?_,by omega⟩
    ·grind
    grind [List.drop_eq_getElem_cons]
  ·rw[if_neg (by simp;omega)]
   grind
theorem th(F:Nat)(ls:List Lf)(k:List ba->List ba->Option (List ba))(hF:200000000<=F)(htx:∀l,l∈ls->l.tx.length<=50):∀(m j:Nat),j+m=ls.length->∀A B:List ba,kX A->kX B->A.length+B.length+50*m<=80000000->
  ∃A' B',ia F (ls.map Lf.row) k m (j:Int) A B=k A' B'/\kX A'/\kX B'/\(∀x,x∈A'<->x∈A\/FB (ls.drop j) x)/\(∀x,x∈B'<->x∈B\/Gj (ls.drop j) x)/\A'.length+B'.length<=A.length+B.length+50*m
 |0,j,hj,A,B,hA,hB,hl=>by
  rw[ia,al9 (by omega)]
  grind [FB,Gj]
 |m+1,j,hj,A,B,hA,hB,hl=>by
  have hn:j<ls.length:=by omega
  have ht:=htx ls[j] (ba8 _);rw[ia,aF,aF];obtain⟨A1,B1,e1,p1,p2,p3,p4,p5⟩:=nW F ls j hn (fun l16 l17=>(fun l13 l14=>ia F (ls.map Lf.row) k m ((j:Int)+1) l13 l14) l16 l17) hF ht F 0 (by omega) (by omega) A B hA hB (by omega);obtain⟨A',B',g1,g2,g3,g4,g5,g6⟩:=th F ls k hF htx m (j+1) (by omega) A1 B1 p1 p2 (by omega);rw[show((0:Nat):Int)=0 from rfl] at e1;refine⟨A',B',e1.trans g1,g2,g3,fun x=>?_,fun x=>?_,by omega⟩
  ·rw[g4,p3,bq9,br8 hn];unfold FB
   grind
  ·rw[g5,p4,bq9,br8 hn];unfold Gj
   grind
structure Sm(ls sm:List Lf):Prop where
 sub:∀l,l∈ls->l∈sm
 ok:∀l,l∈sm->iX l
 ln:sm.length<=12000
theorem nU(F:Nat)(is bg:List ba)(hi:kX is)(hb:kX bg)(hF:200000000<=F)(hl1:is.length<=600000)(hl2:bg.length<=600000)(k:List ba->Option (List ba)):∀(l acc:List ba),(∀p,p∈l->pS p)->acc.length+l.length<=10000000->
  ∃fs,hX F is bg k l acc=k (acc++fs)/\fs.length<=l.length/\(∀p,p∈l->(∃t,dR is bg p t/\t∈fs)\/∀t,¬dR is bg p t)/\∀x,x∈fs->∃p,dR is bg p x
 |[],acc,_,_=>⟨[],by rw[hX];simp,ae9 _,by simp,by simp⟩
 |p::l,acc,h,hl=>by
  simp only[bu8] at hl;rw[hX];rcases IP F p bg is hb hi (by omega) (by omega) (by omega) (by omega) (h p (by simp)) with ⟨t,e,hf⟩|⟨e,hf⟩
  ·obtain⟨fs,g1,g2,g3,g4⟩:=nU F is bg hi hb hF hl1 hl2 k l (acc++[t]) (fun q hq=>h q (by simp[hq])) (by simp;omega);refine⟨t::fs,?_,by simp;omega,fun q hq=>?_,fun x hx=>?_⟩
   ·rw[e,bw9,aF]
    grind
   ·grind
   grind
  ·obtain⟨fs,g1,g2,g3,g4⟩:=nU F is bg hi hb hF hl1 hl2 k l acc (fun q hq=>h q (by simp[hq])) (by omega);refine⟨fs,?_,by simp;omega,fun q hq=>?_,g4⟩
   ·simp_all[aF]
   grind
theorem IU(F:Nat)(ls:List Lf)(hF:200000000<=F)(hlo:∀l,l∈ls->iX l)(hlen:ls.length<=1500000){sm:List Lf}(hsm:Sm ls sm):
  ∃is bg out,AQ F (ls.map Lf.row)=some out/\(∀x,x∈is<->FB ls x)/\(∀x,x∈bg<->Gj ls x)/\GD is bg out/\out.length<=1300000:=by
 unfold AQ;rw[aF,bf8,show(((ls.length:Nat):Int)).toNat=ls.length by omega];obtain⟨is,bg,e,h1,h2,h3,h4,h5⟩:=th F ls (fun(l3:List B8) (l4:List B8)=>if l3.length*16<=140737488355328 then (xe F l4 ([]:B8)).bind fun y55=>jn (fun(l58:List B8)=>some l58) (fun k57=>hX F l3 l4 k57 y55 l3) else none) hF (fun l hl=>(hlo l hl).len) ls.length 0 (by omega) [] [] (by simp) (by simp) (by simp;omega);simp only[bo8,cb8,bq9,List.not_mem_nil,false_or] at h3 h4 h5;rw[show((0:Nat):Int)=0 from rfl] at e
 have hU:(sm.flatMap Lf.tx).length<=600000:=by
  have:=ow Lf.tx 50 sm fun l hl=>(hsm.ok l hl).len;have:=hsm.ln;omega
 have hi6:is.length<=600000:=bt8 (io (h1.imp uU) fun x hx=>by
  obtain⟨l,hl,_,hx⟩:=(h3 x).1 hx;exact ac8.2 ⟨l,hsm.sub l hl,hx⟩) hU
 have hb6:bg.length<=600000:=bt8 (io (h2.imp uU) fun x hx=>by
  obtain⟨l,hl,_,hx⟩:=(h4 x).1 hx;exact ac8.2 ⟨l,hsm.sub l hl,hx⟩) hU
 obtain⟨b2,e2,q1,q2,q3⟩:=ri F bg [] (by omega) h2 (by omega)
 have hbo:∀b,b∈bg->pS b:=fun b hb=>by
  obtain⟨l,hl,_,hx⟩:=(h4 b).1 hb;exact(hlo l hl).tx b hx
 have h0:pS []:=⟨by simp,by simp⟩;obtain⟨fs,g1,g2,g3,g4⟩:=nU F is bg h1 h2 hF (by omega) (by omega) (fun l58=>some l58) b2 is (fun p hp=>((q2 p).1 hp).elim (fun e=>e ▸ h0) (hbo p)) (by omega);refine⟨is,bg,is++fs,?_,h3,h4,⟨fun e he=>cf8 _ he,fun p hp=>?_,fun x hx=>?_⟩,by grind⟩
 ·rw[e,if_pos (by omega),e2,bw9,aF];exact g1
 ·grind
 ·rcases bx9.1 hx with hx|hx
  ·grind
  ·obtain⟨p,hp⟩:=g4 x hx;exact .inr hp.ok
abbrev Az(l:List Int):Prop:=l.Pairwise (fun a b=>a<b)
theorem td(F:Nat)(a:List Int)(x:Int)(ha:Az a)(hl:a.length<=10000000):∀(m j:Nat),j+m=a.length->(∀y,y∈a.take j->y<x)->
  ∃out,jc F a x (fun(l4:List Int)=>if (l4++([x]:List Int)).length*8<=140737488355328 then some (l4++([x]:List Int)) else none) (a.drop j) (j:Int) (a.take j)=some out/\Az out/\(∀y,y∈out<->y=x\/y∈a)/\out.length<=a.length+1
 |0,j,hj,h=>by
  rw[al9 (by omega),jc,List.take_of_length_le (by omega),if_pos (by simp;omega)]
  grind
 |m+1,j,hj,h=>by
  have hn:j<a.length:=by omega
  rw[br8 hn,jc];by_cases e:a[j]=x
  ·grind
  ·rw[if_neg (by grind),bF hn,bw9];by_cases hg:a[j]>x
   ·rw[if_pos (decide_eq_true hg),if_pos (by simp;omega),show((j:Int)).toNat=j from rfl,if_pos ⟨by omega,by omega⟩,if_pos (by simp;omega)];refine⟨_,rfl,?_,fun y=>?_,by simp;omega⟩
    ·have hgt:∀y,y∈a.drop j->x<y:=fun y hy=>by
      obtain⟨q,hq,e⟩:=bg9 hy;rw[List.getElem_drop] at e;rw[am9] at hq;by_cases h0:q=0
      ·grind
      ·have:=au8.1 ha j (j+q) hn (by omega) (by omega);omega
     grind
    ·rw[bx9,bx9,bj8]
     grind [List.take_append_drop]
   ·rw[if_neg (by grind),bw9,if_pos (by grind),<-List.take_succ_eq_append_getElem hn,show((j:Int)+1)=((j+1:Nat):Int) from rfl];refine td F a x ha hl m (j+1) (by omega) fun y hy=>?_
    grind [List.take_succ_eq_append_getElem]
theorem IM(F:Nat)(a:List Int)(x:Int)(ha:Az a)(hl:a.length<=10000000):∃out,GU F a x=some out/\Az out/\(∀y,y∈out<->y=x\/y∈a)/\out.length<=a.length+1:=by
 unfold GU;rw[aF];have:=td F a x ha hl a.length 0 (by omega) (by simp)
 grind
def Cp(ls:List Lf)(x:Int):Prop:=∃l,l∈ls/\l.k=5/\l.n=x
theorem nT(F:Nat)(ls:List Lf)(k:List Int->Option (List Int)):∀(m j:Nat),j+m=ls.length->∀A:List Int,Az A->A.length+m<=10000000->
  ∃A',je F (ls.map Lf.row) k ((ls.drop j).map Lf.row) (j:Int) A=k A'/\Az A'/\(∀x,x∈A'<->x∈A\/Cp (ls.drop j) x)/\A'.length<=A.length+m
 |0,j,hj,A,hA,hl=>by
  grind [je,Cp]
 |m+1,j,hj,A,hA,hl=>by
  have hn:j<ls.length:=by omega
  rw[br8 hn,bi8,je];simp only[ou hn,Lf.dec,bw9,aF];rw[show ls[j].t.Kind=ls[j].k from rfl,show ls[j].t.N=ls[j].n from rfl];by_cases k5:ls[j].k=5
  ·rw[if_pos (by grind)];obtain⟨A1,e1,p1,p2,p3⟩:=IM F A ls[j].n hA (by omega);obtain⟨A',g1,g2,g3,g4⟩:=nT F ls k m (j+1) (by omega) A1 p1 (by omega);refine⟨A',by grind,g2,fun x=>?_,by omega⟩;rw[g3,p2];unfold Cp
   grind
  ·rw[if_neg (by grind)];obtain⟨A',g1,g2,g3,g4⟩:=nT F ls k m (j+1) (by omega) A hA (by omega);refine⟨A',g1,g2,fun x=>?_,by omega⟩;rw[g3];unfold Cp
   grind
def zi:Option Int->List Int->List Int
 |_,[]=>[]
 |p,x::r=>(if -1000000000000<=x - 1/\(∀q,p=some q->q<x - 1) then [x - 1] else [])++x::zi (some x) r
theorem Bp:∀(l:List Int) (p:Option Int),(zi p l).length<=2*l.length
 |[],p=>by simp[zi]
 |x::r,p=>by
  have:=Bp r (some x);rw[zi,bf9,bu8,bu8];split<;>simp<;>omega
theorem zL:∀(l:List Int) (p:Option Int) (x:Int),x∈l->x∈zi p l
 |y::r,p,x,h=>by
  rw[zi];rcases aq8.1 h with e|h
  ·subst e;simp
  ·exact List.mem_append_right _ (bv8 _ (zL r (some y) x h))
theorem Fg:∀(l:List Int) (p:Option Int),(∀x,x∈l->jH x)->∀y,y∈zi p l->jH y
 |[],p,h,y,hy=>by simp[zi] at hy
 |x::r,p,h,y,hy=>by
  rw[zi] at hy;have hx:=h x (by simp);unfold jH at hx;rcases bx9.1 hy with hy|hy
  ·split at hy
   ·rename_i hc;simp only[bj8] at hy;rw[hy];exact⟨hc.1,by omega⟩
   ·simp at hy
  ·rcases aq8.1 hy with e|hy
   ·rw[e];exact hx
   ·exact Fg r (some x) (fun z hz=>h z (by simp[hz])) y hy
theorem Bo:∀(l:List Int) (p:Option Int),Az l->(∀q,p=some q->∀x,x∈l->q<x)->∀x,x∈l->jH (x - 1)->x - 1∈zi p l\/p=some (x - 1)
 |y::r,p,hs,hp,x,hx,ho=>by
  rw[zi];rcases aq8.1 hx with e|hx
  ·subst e;by_cases hc : -1000000000000<=x - 1/\∀q,p=some q->q<x - 1
   ·grind
   ·right
    cases p with
    |none=>exact absurd ⟨ho.1,fun q hq=>by cases hq⟩ hc
    |some q=>
     have h1:=hp q rfl x (by simp);have h2:¬q<x - 1:=fun h=>hc ⟨ho.1,fun q' hq=>by grind⟩
     grind
  ·left
   have hs':=List.pairwise_cons.1 hs;rcases Bo r (some y) hs'.2 (fun q hq=>by cases hq;exact hs'.1) x hx ho with h|h
   ·exact List.mem_append_right _ (bv8 _ h)
   ·have:y=x - 1:=ah9 h;rw[<-this];simp
theorem tg(F:Nat)(l3:List Int)(hok:∀x,x∈l3->jH x)(hl:l3.length<=10000000)(k:List Int->Option (List Int)):∀(m j:Nat),j+m=l3.length->∀A:List Int,A.length+2*m<=100000000->
  gx F l3 k (l3.drop j) (j:Int) A=k (A++zi (if j=0 then none else l3[j - 1]?) (l3.drop j))
 |0,j,hj,A,hA=>by
  simp_all[gx,zi]
 |m+1,j,hj,A,hA=>by
  have hn:j<l3.length:=by omega
  have hx:=hok l3[j] (ba8 _);unfold jH at hx;have hw:bh (l3[j] - 1)=l3[j] - 1:=cm (by omega) (by omega);have ih:=fun A hA=>tg F l3 hok hl k m (j+1) (by omega) A hA;rw[if_neg (by omega),bs8,ax8 hn,show((j+1:Nat):Int)=(j:Int)+1 from rfl] at ih;rw[br8 hn,gx,aF,hw,zi]
  have fin:∀B:List Int,B.length<=1->(∀C:List Int,C=A++(B++[l3[j]])->gx F l3 k (l3.drop (j+1)) ((j:Int)+1) C=k (A++(B++l3[j]::zi (some l3[j]) (l3.drop (j+1))))):=by
   intro B hB C hC;rw[hC,ih _ (by simp;omega)];simp
  by_cases h1:l3[j] - 1 ≥ -1000000000000
  ·rw[if_pos (decide_eq_true h1)];by_cases h0:j=0
   ·rw[if_pos (by simp[h0]),if_pos (by simp;omega),bF hn,bw9,if_pos (by simp;omega)];rw[if_pos (⟨h1,fun q hq=>by grind⟩:_/\_)]
    grind
   ·have hj1:bh ((j:Int) - 1)=((j - 1:Nat):Int):=by rw[cm (by omega) (by omega)];omega
    rw[if_neg (by simp;omega),hj1,bF (show j - 1<l3.length by omega),bw9,aF,bF hn,if_neg h0,ax8 (show j - 1<l3.length by omega)];simp only[bw9];by_cases h2:l3[j - 1]<l3[j] - 1
    ·rw[if_pos (decide_eq_true h2),if_pos (by simp;omega),if_pos (by simp;omega)];rw[if_pos (⟨h1,fun q hq=>by grind⟩:_/\_)]
     grind
    ·rw[if_neg (by grind),if_pos (by simp;omega)];rw[if_neg (fun hc=>h2 (hc.2 _ rfl))]
     grind
  ·rw[if_neg (by grind),bF hn,bw9,if_pos (by simp;omega)]
   grind
structure Lz(ns out:List Int):Prop where
 h0:∃z,z∈out
 h1:∀n,n∈ns->n∈out
 h2:∀n,n∈ns->jH (n - 1)->n - 1∈out
 h3:∀m,m∈ns->(∀n,n∈ns->n<=m)->jH (m+1)->m+1∈out
 ok:∀x,x∈out->jH x
theorem IT(F:Nat)(ls:List Lf)(hlo:∀l,l∈ls->iX l)(hlen:ls.length<=1500000){sm:List Lf}(hsm:Sm ls sm):
  ∃ns out,xc F (ls.map Lf.row)=some out/\(∀x,x∈ns<->Cp ls x)/\Lz ns out/\out.length<=30000:=by
 unfold xc;rw[aF];obtain⟨ns,e,h1,h2,h3⟩:=nT F ls (fun(l3:List Int)=>if (((l3.length:Nat):Int)==0)=true then some ([0]:List Int)
 else jn (fun(l25:List Int)=>(cn l3 (bh (((l3.length:Nat):Int) - 1))).bind fun x54=>jn (fun(l57:List Int)=>some l57) (fun k56=>if (decide ((bh (x54+1))<=1000000000000))=true then if (l25++([(bh (x54+1))]:List Int)).length*8<=140737488355328 then k56 (l25++([(bh (x54+1))]:List Int)) else none
 else k56 l25)) (fun k24=>gx F l3 k24 l3 0 ([]:List Int))) ls.length 0 (by omega) [] (by simp) (by simp;omega)
 simp only[bo8,cb8,bq9,List.not_mem_nil,false_or] at h2 h3;rw[bq9,show((0:Nat):Int)=0 from rfl] at e
 have hok:∀x,x∈ns->jH x:=fun x hx=>by
  obtain⟨l,hl,h5,e⟩:=(h2 x).1 hx;exact e ▸ (hlo l hl).n h5
 have hn6:ns.length<=12000:=by
  have q:=io (m:=sm.map Lf.n) (h1.imp fun h=>Int.ne_of_lt h) fun x hx=>by
   obtain⟨l,hl,_,e⟩:=(h2 x).1 hx;exact bc9.2 ⟨l,hsm.sub l hl,e⟩
  rw[bf8] at q;exact bt8 q hsm.ln
 refine⟨ns,?_⟩;rw[e];by_cases h0:ns=[]
 ·subst h0;exact⟨[0],rfl,h2,⟨⟨0,by simp⟩,by simp,by simp,by simp,fun x hx=>by simp only[bj8] at hx;subst hx;exact⟨by omega,by omega⟩⟩,by simp⟩
 ·have hpos:0<ns.length:=List.length_pos_iff.2 h0;rw[if_neg (by grind),aF];have hL2:=tg F ns hok (by omega) (fun(l25:List Int)=>(cn ns (bh (((ns.length:Nat):Int) - 1))).bind fun x54=>jn (fun(l57:List Int)=>some l57) (fun k56=>if (decide ((bh (x54+1))<=1000000000000))=true then if (l25++([(bh (x54+1))]:List Int)).length*8<=140737488355328 then k56 (l25++([(bh (x54+1))]:List Int)) else none
 else k56 l25)) ns.length 0 (by omega) [] (by simp;omega)
  rw[bq9,if_pos rfl,ad9,show((0:Nat):Int)=0 from rfl] at hL2;rw[hL2];have hw:bh (((ns.length:Nat):Int) - 1)=((ns.length - 1:Nat):Int):=by rw[cm (by omega) (by omega)];omega
  have hll:ns.length - 1<ns.length:=by omega
  rw[hw,bF hll,bw9,aF];have hlast:=hok _ (ba8 hll);have hlast':=hlast;unfold jH at hlast';have hw2:bh (ns[ns.length - 1]+1)=ns[ns.length - 1]+1:=cm (by omega) (by omega);rw[hw2];have hnl:=Bp ns none
  have key:∀ex:List Int,(∀x,x∈ex->jH x)->(jH (ns[ns.length - 1]+1)->ns[ns.length - 1]+1∈ex)->Lz ns (zi none ns++ex):=by
   intro ex h1' h2';refine⟨⟨ns[ns.length - 1],cf8 _ (zL _ _ _ (ba8 _))⟩,fun n hn=>cf8 _ (zL _ _ _ hn),fun n hn ho=>?_,fun m hm hmax ho=>?_,fun x hx=>?_⟩
   ·grind [Bo]
   ·have hme:m=ns[ns.length - 1]:=by
     obtain⟨i,hi,e⟩:=bg9 hm;have h5:=hmax _ (ba8 hll);rcases bp9 i (ns.length - 1) with h6|h6
     ·have:=au8.1 h1 i (ns.length - 1) hi hll h6;omega
     ·grind
    grind
   ·grind [Fg]
  by_cases hc:ns[ns.length - 1]+1<=1000000000000
  ·rw[if_pos (decide_eq_true hc),if_pos (by simp;omega)];exact⟨_,rfl,h2,key [ns[ns.length - 1]+1] (fun x hx=>by simp only[bj8] at hx;subst hx;exact⟨by omega,hc⟩) (fun _=>by simp),by simp;omega⟩
  ·rw[if_neg (by grind)];have:=key [] (by simp) fun ho=>absurd ho.2 hc
   grind
def fz:Fd:=⟨false,false,[],0⟩
def ft(t:ba):Fd:=⟨true,false,t,0⟩
def fn(n:Int):Fd:=⟨false,true,[],n⟩
def fb(t:ba)(n:Int):Fd:=⟨true,true,t,n⟩
section
variable(F:Nat)(k:List Fd->Option (List Fd))
theorem dQ:∀(l:List ba) (acc:List Fd),acc.length+l.length<=100000000000->cY F k l acc=k (acc++l.map ft)
 |[],acc,_=>by rw[cY];simp
 |x::l,acc,h=>by
  simp only[bu8] at h;rw[cY,if_pos (by simp;omega),dQ l _ (by simp;omega)];simp[ft]
theorem dP:∀(l:List Int) (acc:List Fd),acc.length+l.length<=100000000000->cX F k l acc=k (acc++l.map fn)
 |[],acc,_=>by rw[cX];simp
 |x::l,acc,h=>by
  simp only[bu8] at h;rw[cX,if_pos (by simp;omega),dP l _ (by simp;omega)];simp[fn]
theorem tp(ts:List ba)(ns:List Int)(i:Nat)(hi:i<ts.length):∀(m j:Nat),j+m=ns.length->∀acc:List Fd,acc.length+m<=1000000000000->jg F ts ns (i:Int) k m (j:Int) acc=k (acc++(ns.drop j).map (fb ts[i]))
 |0,j,hj,acc,_=>by simp_all[jg]
 |m+1,j,hj,acc,h=>by
  have hn:j<ns.length:=by omega
  rw[jg,bF hi,bw9,bF hn,bw9,if_pos (by simp;omega),show((j:Int)+1)=((j+1:Nat):Int) from rfl,tp ts ns i hi m (j+1) (by omega) _ (by simp;omega),br8 hn,bi8,by8,List.singleton_append];rfl
theorem nY(ts:List ba)(ns:List Int):∀(m i:Nat),i+m=ts.length->∀acc:List Fd,acc.length+m*ns.length<=1000000000000->ig F ts ns k m (i:Int) acc=k (acc++(ts.drop i).flatMap fun t=>ns.map (fb t))
 |0,i,hi,acc,_=>by simp_all[ig]
 |m+1,i,hi,acc,h=>by
  have hn:i<ts.length:=by omega
  have h4:=tp F (fun l42=>(fun l40=>ig F ts ns k m ((i:Int)+1) l40) l42) ts ns i hn ns.length 0 (by omega) acc (by rw[al8] at h;omega);rw[show((0:Nat):Int)=0 from rfl,bq9] at h4;rw[ig,aF,aF,show(((ns.length:Nat):Int)).toNat=ns.length by omega];refine h4.trans ?_;dsimp only;rw[show((i:Int)+1)=((i+1:Nat):Int) from rfl,nY ts ns m (i+1) (by omega) _ (by rw[bf9,bf8];rw[al8] at h;omega),br8 hn,ab8,by8]
end
def kW(a b c:Bool)(ts:List ba)(ns:List Int):List Fd:=
 fz::((if (a||c)=true then ts.map ft else [])++((if (b||c)=true then ns.map fn else [])++(if (a&&b)=true then ts.flatMap fun t=>ns.map (fb t) else [])))
theorem Jh(F:Nat)(ls:List Lf)(ts:List ba)(ns:List Int)(h1:AQ F (ls.map Lf.row)=some ts)(h2:xc F (ls.map Lf.row)=some ns)(hl1:ts.length<=1300000)(hl2:ns.length<=30000):
  zc F (ls.map Lf.row)=some (kW (uT ls) (uN ls) (uH ls) ts ns):=by
 unfold zc;have hm:ts.length*ns.length<=1300000*30000:=Nat.mul_le_mul hl1 hl2;rw[GF,bw9,h1,h2];simp only[bw9,aF];unfold kW;cases uT ls<;>cases uN ls<;>cases uH ls<;>simp only[ch8,if_false,if_true,Bool.or_false,Bool.or_true,Bool.and_false,Bool.and_true,Bool.false_and,Bool.true_or,Bool.false_or,Bool.or_self,Bool.and_self,ag8]
 ·simp_all[dQ,dP,fz]
 ·grind [dQ,dP,fz]
 ·grind [dQ,dP,fz]
 ·grind [dQ,dP,fz]
 ·grind [dQ,dP,fz]
 ·grind [dQ,dP,fz]
 ·rw[dQ F _ ts _ (by grind)];rw[dP F _ ns _ (by grind)];rw[show(((ts.length:Nat):Int)).toNat=ts.length by omega];have:=nY F (fun l33=>some l33) ts ns ts.length 0 (by omega) ([(⟨false,false,[],0⟩:Fd)]++ts.map ft++ns.map fn) (by simp;omega)
  simp_all[fz]
 ·rw[dQ F _ ts _ (by grind)];rw[dP F _ ns _ (by grind)];rw[show(((ts.length:Nat):Int)).toNat=ts.length by omega];have:=nY F (fun l33=>some l33) ts ns ts.length 0 (by omega) ([(⟨false,false,[],0⟩:Fd)]++ts.map ft++ns.map fn) (by simp;omega)
  simp_all[fz]
def rsb(ls:List Lf)(is bg:List ba)(ns:List Int):ae:=⟨is,bg,ns,uT ls,uN ls,uH ls,0⟩
theorem KF{ls:List Lf}{is bg:List ba}{ns:List Int}(hi:∀x,x∈is<->FB ls x)(hb:∀x,x∈bg<->Gj ls x)(hn:∀x,x∈ns<->Cp ls x){l:Lf}(hl:l∈ls)(ho:iX l):Cx (rsb ls is bg ns) l:=by
 have hk:=ho.k;have hT:l.k=2\/l.k=3->uT ls=true:=fun h=>cd9.2 ⟨l,hl,by grind⟩;by_cases k2:l.k=2
 ·exact .inl ⟨k2,fun e he=>(hi e).2 ⟨l,hl,k2,he⟩,hT (.inl k2)⟩
 by_cases k3:l.k=3
 ·exact .inr (.inl ⟨k3,fun e he=>(hb e).2 ⟨l,hl,k2,he⟩,hT (.inr k3)⟩)
 by_cases k4:l.k=4
 ·exact .inr (.inr (.inl ⟨k4,cd9.2 ⟨l,hl,by simp[k4]⟩⟩))
 ·have k5:l.k=5:=by omega
  exact .inr (.inr (.inr ⟨k5,(hn _).2 ⟨l,hl,k5,Y⟩,cd9.2 ⟨l,hl,by simp[k5]⟩⟩))
theorem H3{ls:List Lf}{is bg ts:List ba}{nn ns:List Int}(ht:GD is bg ts)(hn:Lz nn ns)(hnn:∀n,n∈nn->jH n)(v:Fd)(hv:zh v):
  ∃c,c∈kW (uT ls) (uN ls) (uH ls) ts ns/\uY (rsb ls is bg nn) c v:=by
 have hT:v.isText=true->∃t,t∈ts/\yM is bg t v.text:=fun h=>xH ht.hi ht.hb v.text (hv.1 h);have hN:v.isNumber=true->∃y,y∈ns/\sX nn y v.number:=fun h=>Bf hn.h0 hn.h1 hn.h2 hn.h3 hnn v.number (hv.2 h)
 have mk:∀(a b c:Bool),∃x,x∈kW a b c ts ns/\(a=true->x.isText=v.isText/\(x.isText=true->yM is bg x.text v.text))/\(b=true->x.isNumber=v.isNumber/\(x.isNumber=true->sX nn x.number v.number))/\(c=true->(x.isText||x.isNumber)=(v.isText||v.isNumber)):=by
  intro a b c;cases hvt:v.isText with
  |true=>
   obtain⟨t,t1,t2⟩:=hT hvt
   have hft:(a||c)=true->ft t∈kW a b c ts ns:=fun h=>by
    simp_all[kW,bl9]
   cases hvn:v.isNumber with
   |true=>
    obtain⟨y,y1,y2⟩:=hN hvn
    have hfn:(b||c)=true->fn y∈kW a b c ts ns:=fun h=>by
     simp_all[kW,bl9]
    cases a with
    |true=>
     cases b with
     |true=>
      refine⟨fb t y,?_,fun _=>⟨Y,fun _=>t2⟩,fun _=>⟨Y,fun _=>y2⟩,fun _=>Y⟩;unfold kW
      grind
     |false=>grind [ft]
    |false=>
     cases b with
     |true=>grind [fn]
     |false=>
      cases c with
      |true=>grind [ft]
      |false=>simp_all[kW]
   |false=>
    cases hac:a||c with
    |true=>grind [ft]
    |false=>
     simp_all[fz,kW]
  |false=>
   cases hvn:v.isNumber with
   |true=>
    obtain⟨y,y1,y2⟩:=hN hvn
    have hfn:(b||c)=true->fn y∈kW a b c ts ns:=fun h=>by
     simp_all[kW,bl9]
    cases hbc:b||c with
    |true=>grind [fn]
    |false=>
     simp_all[fz,kW]
   |false=>simp_all[fz,kW]
 obtain⟨x,h1,h2,h3,h4⟩:=mk (uT ls) (uN ls) (uH ls);exact⟨x,h1,h2,h3,h4⟩
theorem K4{a b c:Bool}{ts:List ba}{ns:List Int}(ht:∀x,x∈ts->pS x)(hn:∀x,x∈ns->jH x){x:Fd}(hx:x∈kW a b c ts ns):zh x:=by
 unfold kW at hx;rcases aq8.1 hx with e|hx
 ·rw[e];exact⟨fun h=>(by cases h),fun h=>(by cases h)⟩
 rcases bx9.1 hx with hx|hx
 ·split at hx
  ·obtain⟨t,h,rfl⟩:=bc9.1 hx;exact⟨fun _=>ht t h,fun h=>(by cases h)⟩
  grind
 rcases bx9.1 hx with hx|hx
 ·split at hx
  ·obtain⟨n,h,rfl⟩:=bc9.1 hx;exact⟨fun h=>(by cases h),fun _=>hn n h⟩
  grind
 ·split at hx
  ·obtain⟨t,h,hx⟩:=ac8.1 hx;obtain⟨n,h2,rfl⟩:=bc9.1 hx;exact⟨fun _=>ht t h,fun _=>hn n h2⟩
  grind
structure Fds(ls:List Lf)(cs:List Fd):Prop where
 rep:∀v,zh v->∃c,c∈cs/\∀l,l∈ls->l.one c=l.one v
 ok:∀c,c∈cs->zh c
 ln:cs.length<=100000000000
theorem Jg(F:Nat)(ls:List Lf)(hF:200000000<=F)(hlo:∀l,l∈ls->iX l)(hlen:ls.length<=1500000){sm:List Lf}(hsm:Sm ls sm):∃cs,zc F (ls.map Lf.row)=some cs/\Fds ls cs:=by
 obtain⟨is,bg,ts,e1,a1,a2,a3,a4⟩:=IU F ls hF hlo hlen hsm;obtain⟨nn,ns,e2,b1,b2,b3⟩:=IT F ls hlo hlen hsm;refine⟨_,Jh F ls ts ns e1 e2 a4 b3,⟨fun v hv=>?_,fun c hc=>?_,?_⟩⟩
 ·obtain⟨c,h1,h2⟩:=H3 (ls:=ls) a3 b2 (fun n hn=>by
   obtain⟨l,hl,h5,e⟩:=(b1 n).1 hn;exact e ▸ (hlo l hl).n h5) v hv
  exact⟨c,h1,fun l hl=>xM (KF a1 a2 b1 hl (hlo l hl)) h2⟩
 ·refine K4 (fun x hx=>(a3.ok x hx).elim (fun h=>?_) id) b2.ok hc;obtain⟨l,hl,_,hx⟩:=(a1 x).1 h;exact(hlo l hl).tx x hx
 ·have hm:ts.length*ns.length<=1300000*30000:=Nat.mul_le_mul a4 b3;have hfm:(ts.flatMap fun t=>ns.map (fb t)).length<=ts.length*ns.length:=ow _ _ _ fun x _=>by grind
  grind [kW]
def kv:Option Bool->Int
 |none=>2
 |some true=>1
 |some false=>0
structure JO(ns:List ba)(S:List Bool)(I:List Fd)(s:ba->Option Fd):Prop where
 l1:S.length=ns.length
 l2:I.length=ns.length
 at_:∀(i:Nat) (h:i<ns.length),s ns[i]=if S[i]'(by omega)=true then some (I[i]'(by omega)) else none
theorem xb(F:Nat)(b:Bool):Db F b=some (kv (some b)):=by cases b<;>rfl
theorem Jf(tt:aC)(ns:List ba)(cans:List (List Fd))(S:List Bool)(I:List Fd)(s:ba->Option Fd)(hs:kX ns)(hlen:ns.length<=1000)(h:JO ns S I s):
  ∀t:Tr,t.ok->t.gd->∀F,t.fu+2000<=F->(∀l,l∈t.lvs->l.nm∈ns)->tY F ⟨tt,ns,cans,S,I⟩ t.toT=some (kv (t.tr3 s)):=Tr.ind fun k nm tx op n ks ih ok hz F hF hm=>by
 rw[Tr.fu] at hF;have hfl:=(gX hz).2;obtain⟨F,rfl⟩:∃G,F=G+1:=⟨F - 1,by omega⟩
 show tm (tY F) F ⟨tt,ns,cans,S,I⟩ (Tr.mk k nm tx op n ks).toT=_
 have hkk:=Bz hz;have hkids:=(Tr.okks ok).2
 have hm':¬(2<=k/\k<=5)->∀t,t∈ks->∀l,l∈t.lvs->l.nm∈ns:=fun hk t ht l hl=>hm l (by
  rw[Tr.lvs];by_cases h1:k=1
  ·grind [FN]
  ·rw[if_neg h1,if_pos (by omega)];exact iz.2 ⟨t,ht,hl⟩)
 have hkid:¬(2<=k/\k<=5)->∀t,t∈ks->tY F ⟨tt,ns,cans,S,I⟩ t.toT=some (kv (t.tr3 s)):=fun hk t ht=>ih t ht (Tr.oks_mem (Tr.okks ok).1 ht) (mG hfl ht) F (by have:=Tr.fu_mem ht;omega) (hm' hk t ht)
 have hall:¬(2<=k/\k<=5)->∀(m j:Nat),j+m=ks.length->∀A:Option Bool,A≠some false->eI (tY F) F ⟨tt,ns,cans,S,I⟩ (Tr.mk k nm tx op n ks).toT 0 (fun n20=>some n20) m (j:Int) (kv A)=some (kv (GB A (Tr.all3 s (ks.drop j)))):=by
  intro hk m
  induction m with
  |zero=>
   intro j hj A hA;rw[eI,al9 (by omega),Tr.all3];cases A with
   |none=>rfl
   |some b=>cases b<;>rfl
  |succ m ihm=>
   intro j hj A hA;have hn:j<ks.length:=by omega
   have hix:cn (Tr.mk k nm tx op n ks).toT.Kids (j:Int)=some ks[j].toK:=ep hn;rw[eI,hix,bw9,Tr.dec,bw9,hkid hk _ (ba8 _),bw9,br8 hn,Tr.all3,aF];have hr:=fun B hB=>ihm (j+1) (by omega) B hB;rw[show((j+1:Nat):Int)=(j:Int)+1 from rfl] at hr;cases ks[j].tr3 s with
   |none=>
    show eI _ _ _ _ _ _ _ _ 2=_
    rw[show(2:Int)=kv none from rfl,hr none (by simp)];cases A with
    |none=>cases Tr.all3 s (ks.drop (j+1)) with
     |none=>rfl
     |some b=>cases b<;>rfl
    |some a=>cases a with
     |false=>grind
     |true=>rfl
   |some b=>
    cases b with
    |false=>
     cases A with
     |none=>rfl
     |some a=>cases a with
      |false=>grind
      |true=>rfl
    |true=>exact hr A hA
 have hany:¬(2<=k/\k<=5)->∀(m j:Nat),j+m=ks.length->∀A:Option Bool,A≠some true->eI (tY F) F ⟨tt,ns,cans,S,I⟩ (Tr.mk k nm tx op n ks).toT 1 (fun n20=>some n20) m (j:Int) (kv A)=some (kv (MB A (Tr.any3 s (ks.drop j)))):=by
  intro hk m
  induction m with
  |zero=>
   intro j hj A hA;rw[eI,al9 (by omega),Tr.any3];cases A with
   |none=>rfl
   |some b=>cases b<;>rfl
  |succ m ihm=>
   intro j hj A hA;have hn:j<ks.length:=by omega
   have hix:cn (Tr.mk k nm tx op n ks).toT.Kids (j:Int)=some ks[j].toK:=ep hn;rw[eI,hix,bw9,Tr.dec,bw9,hkid hk _ (ba8 _),bw9,br8 hn,Tr.any3,aF];have hr:=fun B hB=>ihm (j+1) (by omega) B hB;rw[show((j+1:Nat):Int)=(j:Int)+1 from rfl] at hr;cases ks[j].tr3 s with
   |none=>
    show eI _ _ _ _ _ _ _ _ 2=_
    rw[show(2:Int)=kv none from rfl,hr none (by simp)];cases A with
    |none=>cases Tr.any3 s (ks.drop (j+1)) with
     |none=>rfl
     |some b=>cases b<;>rfl
    |some a=>cases a with
     |true=>grind
     |false=>rfl
   |some b=>
    cases b with
    |true=>
     cases A with
     |none=>rfl
     |some a=>cases a with
      |true=>grind
      |false=>rfl
    |false=>exact hr A hA
 have hleaf:(2<=k/\k<=5)->((zb F ns nm).bind fun y37=>(cn S (y37.1)).bind fun x39=>if (!x39)=true then some 2
 else (cn I (y37.1)).bind fun x42=>(AS F (Tr.mk k nm tx op n ks).toT x42).bind fun y44=>(Db F y44).bind fun y46=>some y46)=some (kv ((s nm).map (gU k op n tx))):=by
  intro hk;have hnm:nm∈ns:=hm ⟨k,nm,tx,op,n⟩ (by rw[Tr.lvs,if_neg (by omega),if_neg (by omega)];simp);obtain⟨p,hp,e,_,_,h3⟩:=xd F ns nm (by omega) hs (by omega);obtain⟨hpl,hpe⟩:=bb8.1 (h3 hnm);have hat:=h.at_ p hpl;rw[hpe] at hat;have hS:p<S.length:=by rw[h.l1];exact hpl
  have hI:p<I.length:=by rw[h.l2];exact hpl
  rw[e,bw9];dsimp only;rw[bF hS,bw9,hat];cases hb:S[p] with
  |false=>rfl
  |true=>
   have htx:tx.length<=9223372036854775807:=(Tr.okX ok).2.2.1;rw[if_neg (by simp),bF hI,bw9,B3 F _ _ htx (show tx.length<F by omega),bw9,xb,bw9,if_pos rfl];rfl
 unfold tm;simp only[aF];have hK:(Tr.mk k nm tx op n ks).toT.Kind=k:=rfl;have hKl:(Tr.mk k nm tx op n ks).toT.Kids.length=ks.length:=Tr.toKs_len ks;rw[hK,hKl,Tr.tr3];have hk':k=1\/(2<=k/\k<=5)\/k=6\/k=7\/k=8:=by omega
 rcases hk' with e|e|e|e|e
 ·subst e;rfl
 ·have f1:¬((k==1)=true):=by rw[beq_iff_eq];omega
  have f6:¬((k==6)=true):=by rw[beq_iff_eq];omega
  have f7:¬((k==7)=true):=by rw[beq_iff_eq];omega
  have f8:¬((k==8)=true):=by rw[beq_iff_eq];omega
  rw[if_neg f1,if_neg f6,if_neg f7,if_neg f8,if_neg (by omega),if_neg (by omega),if_neg (by omega),if_neg (by omega)];exact hleaf e
 ·subst e;have hk:¬(2<=(6:Int)/\(6:Int)<=5):=by omega
  rw[if_neg (by decide),if_pos (by decide),if_neg (by decide),if_pos rfl];have h1:ks.length=1:=K2 hz rfl;obtain⟨t,rfl⟩:=List.length_eq_one_iff.1 h1;have hix:cn (Tr.mk 6 nm tx op n [t]).toT.Kids 0=some (t.toK):=ep (ks:=[t]) (n:=0) (by simp);rw[hix,bw9,Tr.dec,bw9,hkid hk t (by simp),bw9,Tr.all3,Tr.all3];cases t.tr3 s with
  |none=>rfl
  |some b=>cases b<;>rfl
 ·subst e;have hk:¬(2<=(7:Int)/\(7:Int)<=5):=by omega
  have:=hall hk ks.length 0 (by omega) (some true) (by simp);rw[bq9] at this;rw[if_neg (by decide),if_neg (by decide),if_pos (by decide),if_pos (by decide),if_neg (by decide),if_neg (by decide),if_pos rfl,xb,bw9,if_pos (by omega),show(((ks.length:Nat):Int)).toNat=ks.length by omega];exact this
 ·subst e;have hk:¬(2<=(8:Int)/\(8:Int)<=5):=by omega
  have:=hany hk ks.length 0 (by omega) (some false) (by simp);rw[bq9] at this;rw[if_neg (by decide),if_neg (by decide),if_neg (by decide),if_pos (by decide),if_neg (by decide),if_neg (by decide),if_neg (by decide),if_pos rfl,xb,bw9,if_pos (by omega),show(((ks.length:Nat):Int)).toNat=ks.length by omega];exact this
theorem tk(F:Nat)(tt:aC)(ns:List ba)(cans:List (List Fd))(S:List Bool)(I:List Fd)(h1:S.length=ns.length)(h2:I.length=ns.length)(k:Int->Int->Option Bool):∀(m j:Nat),j+m=ns.length->∀a b:Nat,a+m<=1000->b+m<=1000->
  ∃a' b':Nat,jf F ⟨tt,ns,cans,S,I⟩ k m (j:Int) (a:Int) (b:Int)=k (a':Int) (b':Int)/\a'<=a+m/\b'<=b+m
 |0,j,hj,a,b,_,_=>⟨a,b,by rw[jf],by omega,by omega⟩
 |m+1,j,hj,a,b,ha,hb=>by
  have hS:j<S.length:=by omega
  have hI:j<I.length:=by omega
  have wa:bh ((a:Int)+1)=((a+1:Nat):Int):=by rw[cm (by omega) (by omega)];rfl
  have wb:bh ((b:Int)+1)=((b+1:Nat):Int):=by rw[cm (by omega) (by omega)];rfl
  have ih:=fun a b ha hb=>tk F tt ns cans S I h1 h2 k m (j+1) (by omega) a b ha hb;rw[show((j+1:Nat):Int)=(j:Int)+1 from rfl] at ih;rw[jf];simp only[bF hS,bF hI,bw9,aF,wa,wb];split
  ·split
   ·split
    ·obtain⟨x,y,e,p,q⟩:=ih (a+1) (b+1) (by omega) (by omega);exact⟨x,y,e,by omega,by omega⟩
    ·obtain⟨x,y,e,p,q⟩:=ih (a+1) b (by omega) (by omega);exact⟨x,y,e,by omega,by omega⟩
   ·split
    ·obtain⟨x,y,e,p,q⟩:=ih a (b+1) (by omega) (by omega);exact⟨x,y,e,by omega,by omega⟩
    ·obtain⟨x,y,e,p,q⟩:=ih a b (by omega) (by omega);exact⟨x,y,e,by omega,by omega⟩
  ·obtain⟨x,y,e,p,q⟩:=ih a b (by omega) (by omega);exact⟨x,y,e,by omega,by omega⟩
theorem B0(F:Nat)(tt:aC)(ns:List ba)(cans:List (List Fd))(S:List Bool)(I:List Fd)(h1:S.length=ns.length)(h2:I.length=ns.length)(hlen:ns.length<=30):G0 F ⟨tt,ns,cans,S,I⟩=some true:=by
 unfold G0;rw[aF];dsimp only;rw[if_pos (by omega),show(((ns.length:Nat):Int)).toNat=ns.length by omega];obtain⟨x,y,e,p,q⟩:=tk F tt ns cans S I h1 h2 (fun(n3:Int) (n4:Int)=>if (decide (n3<=30))=true then some (decide (n4<=30)) else some false) ns.length 0 (by omega) 0 0 (by omega) (by omega);rw[show((0:Nat):Int)=0 from rfl] at e;rw[e,if_pos (decide_eq_true (by omega)),decide_eq_true (by omega)]
theorem JO.set{ns:List ba}{S:List Bool}{I:List Fd}{s:ba->Option Fd}(h:JO ns S I s)(hn:ns.Nodup){j:Nat}(hj:j<ns.length)(x:Fd):JO ns (S.set j true) (I.set j x) (oc s ns[j] x):=by
 refine⟨by rw[am8];exact h.l1,by rw[am8];exact h.l2,fun i hi=>?_⟩;unfold oc;rw[List.getElem_set,List.getElem_set];by_cases e:j=i
 ·subst e;simp
 ·rw[if_neg (show ¬ns[i]=ns[j] from fun h=>e ((List.getElem_inj hn).1 h).symm),if_neg e,if_neg e];exact h.at_ i hi
theorem sA{α:Type}(p:α->Bool)(ns:List α):∀(m j:Nat),j+m=ns.length->
  ((ns.drop j).filter p=[]/\∀i (h:i<ns.length),j<=i->p ns[i]=false) ∨
  ∃(d:Nat) (h:j+d<ns.length),p ns[j+d]=true/\(∀i (h:i<ns.length),j<=i->i<j+d->p ns[i]=false)/\(ns.drop j).filter p=ns[j+d]::(ns.drop (j+d+1)).filter p
 |0,j,hj=>.inl ⟨by rw[al9 (by omega)];rfl,fun i h h2=>by omega⟩
 |m+1,j,hj=>by
  have hn:j<ns.length:=by omega
  rw[br8 hn,aa8];cases hp:p ns[j] with
  |true=>exact .inr ⟨0,hn,hp,fun i h h1 h2=>by omega,by simp⟩
  |false=>
   rw[if_neg (by simp)];rcases sA p ns m (j+1) (by omega) with ⟨h1,h2⟩|⟨d,h,h1,h2,h3⟩
   ·refine .inl ⟨h1,fun i hi hle=>?_⟩;rcases Nat.lt_or_eq_of_le hle with h|h
    ·exact h2 i hi h
    ·subst h;exact hp
   ·refine .inr ⟨d+1,by omega,?_,fun i hi hle hlt=>?_,?_⟩
    ·simpa[show j+(d+1)=j+1+d by omega] using h1
    ·rcases Nat.lt_or_eq_of_le hle with h|h
     ·exact h2 i hi h (by omega)
     ·subst h;exact hp
    ·simpa[show j+(d+1)=j+1+d by omega] using h3
theorem u5(F:Nat)(S:List Bool)(k:Int->Option (Bool×(List Bool)×(List Fd)))(hl:S.length<=1000):∀(d j f:Nat) (h:j+d<S.length),d<f->(∀i (h:i<S.length),j<=i->i<j+d->S[i]=true)->S[j+d]=false->ky F S k f (j:Int)=k ((j+d:Nat):Int)
 |0,j,f,h,hf,_,h2=>by
  obtain⟨f,rfl⟩:∃g,f=g+1:=⟨f - 1,by omega⟩;rw[ky,bF (show j<S.length by omega),bw9,show S[j]=false from h2,if_neg (by simp)];rfl
 |d+1,j,f,h,hf,h1,h2=>by
  obtain⟨f,rfl⟩:∃g,f=g+1:=⟨f - 1,by omega⟩;have w1:bh ((j:Int)+1)=((j+1:Nat):Int):=by rw[cm (by omega) (by omega)];rfl
  rw[ky,bF (show j<S.length by omega),bw9,h1 j (by omega) (ae9 _) (by omega),if_pos rfl,w1,u5 F S k hl d (j+1) f (by omega) (by omega) (fun i hi a b=>h1 i hi (by omega) (by omega)) (by simpa[show j+1+d=j+(d+1) by omega] using h2),show j+1+d=j+(d+1) by omega]
def Ca(s:ba->Option Fd)(n:ba):Bool:=(s n).isNone
section
variable(t:Tr)(ok:t.ok)(hz:t.gd)(ns:List ba)(hs:kX ns)(hlen:ns.length<=17)(hm:∀l,l∈t.lvs->l.nm∈ns)(can:ba->List Fd)(hcan:∀n,(can n).length<=100000000000)
noncomputable abbrev HP(F:Nat)(t:Tr)(ns:List ba)(can:ba->List Fd)(j:Int)(S:List Bool)(I:List Fd):Option (Bool×(List Bool)×(List Fd)):=yT F j t.toT.Kind t.toT.Name t.toT.Texts t.toT.Op t.toT.N t.toT.Kids ns (ns.map can) S I
include ok hz hs hlen hm hcan
theorem LL:∀(m j:Nat),j+m=ns.length->∀F,t.fu+200000000000+m<=F->∀(S:List Bool) (I:List Fd) (s:ba->Option Fd),JO ns S I s->(∀i (h:i<I.length) (h':i<S.length),S[i]=false->I[i]=fz)->(∀i (h:i<S.length),i<j->S[i]=true)->
  match qn? (fun s=>t.tr3 s) can ((ns.drop j).filter (Ca s)) s with
  |none=>HP F t ns can (j:Int) S I=some (false,S,I)
  |some s'=>∃S' I',HP F t ns can (j:Int) S I=some (true,S',I')/\S'.length=ns.length/\I'.length=ns.length:=by
 intro m
 induction m using Nat.strongRecOn with
 |_ m ih=>
  intro j hj F hF S I s h hI hS2;obtain⟨F,rfl⟩:∃G,F=G+1:=⟨F - 1,by omega⟩;have hk:=Jf t.toT ns (ns.map can) S I s hs (by omega) h t ok hz F (by omega) hm;have e:HP (F+1) t ns can (j:Int) S I=ta (yT F) F (j:Int) t.toT.Kind t.toT.Name t.toT.Texts t.toT.Op t.toT.N t.toT.Kids ns (ns.map can) S I:=rfl
  have huns:∀i (hi:i<ns.length),Ca s ns[i] = !(S[i]'(by rw[h.l1];exact hi)):=fun i hi=>by
   unfold Ca;rw[h.at_ i hi];cases S[i]'(by rw[h.l1];exact hi)<;>rfl
  have known:∀b:Bool,t.tr3 s=some b->(b=false->HP (F+1) t ns can (j:Int) S I=some (false,S,I))/\(b=true->HP (F+1) t ns can (j:Int) S I=some (true,S,I)):=fun b hb=>by
   rw[hb] at hk;refine⟨fun hb=>?_,fun hb=>?_⟩
   ·subst hb;rw[e,ta,hk,bw9,if_pos (by rfl)]
   ·subst hb;rw[e,ta,hk,bw9,if_neg (by decide),B0 F t.toT ns (ns.map can) S I h.l1 h.l2 (by omega),bw9,if_neg (by simp),if_pos (by rfl)]
  rcases sA (Ca s) ns m j hj with ⟨f1,f2⟩|⟨d,hn,f1,f2,f3⟩
  ·-- all names are settled
   have hfull:∃b,t.tr3 s=some b:=by
    refine⟨_,oh (a:=fun n=>(s n).getD fz) t fun l hl=>?_⟩;obtain⟨i,hi,e⟩:=bg9 (hm l hl);have h1:=h.at_ i hi
    have h2:S[i]'(by rw[h.l1];exact hi)=true:=by
     rcases bp9 i j with q|q
     ·exact hS2 i _ q
     ·have:=f2 i hi q;rw[huns i hi] at this
      simpa using this
    rw[h2,if_pos rfl,e] at h1;rw[h1];rfl
   obtain⟨b,hb⟩:=hfull;rw[f1,qn?];cases b with
   |false=>
    rw[if_neg (by rw[hb];simp)];exact(known false hb).1 Y
   |true=>
    rw[if_pos hb];exact⟨S,I,(known true hb).2 Y,h.l1,h.l2⟩
  ·rw[f3,qn?];cases hb:t.tr3 s with
   |some b=>
    cases b with
    |false=>exact(known false hb).1 rfl
    |true=>exact⟨S,I,(known true hb).2 rfl,h.l1,h.l2⟩
   |none=>
    rw[hb] at hk;dsimp only;obtain⟨j',hj'⟩:∃j',j'=j+d:=⟨_,rfl⟩;have hn':j'<ns.length:=by omega
    have hSj:j'<S.length:=by rw[h.l1];exact hn'
    have hIj:j'<I.length:=by rw[h.l2];exact hn'
    have hnd:ns.Nodup:=hs.imp uU
    have hSf:S[j']=false:=by
     have:=huns j' hn';rw[show Ca s ns[j']=true by subst hj';exact f1] at this
     simpa using this
    have hIf:I[j']=fz:=hI j' hIj hSj hSf
    have hL1:∀k64,ky F S k64 F (j:Int)=k64 (j':Int):=fun k64=>by
     subst hj';refine u5 F S k64 (by rw[h.l1];omega) d j F hSj (by omega) (fun i hi a b=>?_) hSf;have:=f2 i (by rw[<-h.l1];exact hi) a b;rw[huns i (by rw[<-h.l1];exact hi)] at this
     simpa using this
    have hrest:∀x,(ns.drop (j'+1)).filter (Ca (oc s ns[j'] x))=(ns.drop (j'+1)).filter (Ca s):=fun x=>by
     refine List.filter_congr fun n hn=>?_
     have:n≠ns[j']:=by
      obtain⟨i,hi,e⟩:=bg9 hn;rw[List.getElem_drop] at e;intro e2;rw[<-e] at e2;have:=(List.getElem_inj hnd).1 e2;omega
     unfold Ca oc;rw[if_neg this]
    rw[show ns[j+d]=ns[j'] by subst hj';rfl,show j+d+1=j'+1 by omega];have ecan:cn (ns.map can) (j':Int)=some (can ns[j']):=by rw[bF (by simpa using hn')];simp
    -- the rounds over the values
    have hloop:∀(k73:List Bool->List Fd->Option (Bool×(List Bool)×(List Fd))) (d i:Nat),i+d=(can ns[j']).length->∀fuel,d<fuel->∀z:Fd,
      match ((can ns[j']).drop i).findSome? (fun x=>qn? (fun s=>t.tr3 s) can ((ns.drop (j'+1)).filter (Ca s)) (oc s ns[j'] x)) with
      |none=>∃z',gM (yT F) F t.toT.Kind t.toT.Name t.toT.Texts t.toT.Op t.toT.N t.toT.Kids ns (ns.map can) (j':Int) k73 fuel (i:Int) (S.set j' true) (I.set j' z)=k73 (S.set j' true) (I.set j' z')
      |some s'=>∃S' I',gM (yT F) F t.toT.Kind t.toT.Name t.toT.Texts t.toT.Op t.toT.N t.toT.Kids ns (ns.map can) (j':Int) k73 fuel (i:Int) (S.set j' true) (I.set j' z)=some (true,S',I')/\S'.length=ns.length/\I'.length=ns.length:=by
     intro k73 d
     induction d with
     |zero=>
      intro i hi fuel hf z;obtain⟨fuel,rfl⟩:∃g,fuel=g+1:=⟨fuel - 1,by omega⟩;rw[show(can ns[j']).drop i=[] from al9 (by omega),List.findSome?_nil];dsimp only;refine⟨z,?_⟩;rw[gM,ecan,bw9,if_neg (by simp;omega)]
     |succ d ihd=>
      intro i hi fuel hf z;obtain⟨fuel,rfl⟩:∃g,fuel=g+1:=⟨fuel - 1,by omega⟩;have hic:i<(can ns[j']).length:=by omega
      have hcl:=hcan ns[j'];have w1:bh ((j':Int)+1)=((j'+1:Nat):Int):=by rw[cm (by omega) (by omega)];rfl
      have w2:bh ((i:Int)+1)=((i+1:Nat):Int):=by rw[cm (by omega) (by omega)];rfl
      have hrec:=ih (ns.length - (j'+1)) (by omega) (j'+1) (by omega) F (by omega) (S.set j' true) (I.set j' (can ns[j'])[i]) (oc s ns[j'] (can ns[j'])[i]) (h.set hnd hn' _) (fun q hq hq' hle=>by
       rw[am8] at hq hq';rw[List.getElem_set] at hle ⊢;by_cases e:j'=q
       ·rw[if_pos e] at hle;cases hle
       ·rw[if_neg e] at hle ⊢;exact hI q hq hq' hle) (fun q hq hle=>by
       rw[am8] at hq;rw[List.getElem_set];by_cases e:j'=q
       ·rw[if_pos e]
       ·rw[if_neg e];rcases bp9 q j with c|c
        ·exact hS2 q hq c
        ·have:=f2 q (by rw[<-h.l1];exact hq) c (by omega);rw[huns q (by rw[<-h.l1];exact hq)] at this
         simpa using this)
      rw[hrest] at hrec;rw[br8 hic,List.findSome?_cons]
      have hstep:gM (yT F) F t.toT.Kind t.toT.Name t.toT.Texts t.toT.Op t.toT.N t.toT.Kids ns (ns.map can) (j':Int) k73 (fuel+1) (i:Int) (S.set j' true) (I.set j' z)=(HP F t ns can ((j'+1:Nat):Int) (S.set j' true) (I.set j' (can ns[j'])[i])).bind fun y91=>if (y91.2.2).length=(I.set j' z).length then if (y91.1)=true then some (true,(y91.2.1),(y91.2.2))
       else gM (yT F) F t.toT.Kind t.toT.Name t.toT.Texts t.toT.Op t.toT.N t.toT.Kids ns (ns.map can) (j':Int) k73 fuel ((i+1:Nat):Int) (y91.2.1) (y91.2.2) else none:=by
       rw[gM,ecan,bw9,if_pos (decide_eq_true (by omega)),bw9,bF hic,bw9,bF (show j'<(I.set j' z).length by rw[am8];exact hIj),bw9,w1,w2,show((j':Int)).toNat=j' from rfl,List.set_set]
      rw[hstep];cases hfd:qn? (fun s=>t.tr3 s) can ((ns.drop (j'+1)).filter (Ca s)) (oc s ns[j'] (can ns[j'])[i]) with
      |some s'=>
       rw[hfd] at hrec;dsimp only at hrec ⊢;obtain⟨S',I',e1,e2,e3⟩:=hrec;rw[e1,bw9];dsimp only;rw[if_pos (by rw[am8,e3,h.l2]),if_pos rfl];exact⟨S',I',Y,e2,e3⟩
      |none=>
       rw[hfd] at hrec;dsimp only at hrec ⊢;rw[hrec,bw9];dsimp only;rw[if_pos (by rw[am8,am8]),if_neg (by simp)];exact ihd (i+1) (by omega) fuel (by omega) _
    have hcl:=hcan ns[j'];have:=hloop (fun l74 l75=>(cn l74 (j':Int)).bind fun x95=>(cn l75 (j':Int)).bind fun x97=>some (false,(l74.set ((j':Int)).toNat false),(l75.set ((j':Int)).toNat (ab.mk false false ([]:B8) 0)))) (can ns[j']).length 0 (by omega) F (by omega) I[j'];rw[bq9,List.set_getElem_self,show((0:Nat):Int)=0 from rfl] at this
    have hB:HP (F+1) t ns can (j:Int) S I=gM (yT F) F t.toT.Kind t.toT.Name t.toT.Texts t.toT.Op t.toT.N t.toT.Kids ns (ns.map can) (j':Int) (fun l74 l75=>(cn l74 (j':Int)).bind fun x95=>(cn l75 (j':Int)).bind fun x97=>some (false,(l74.set ((j':Int)).toNat false),(l75.set ((j':Int)).toNat (ab.mk false false ([]:B8) 0)))) F 0 (S.set j' true) I:=by
     rw[e,ta,hk,bw9,if_neg (by decide),B0 F t.toT ns (ns.map can) S I h.l1 h.l2 (by omega),bw9,if_neg (by simp),if_neg (by decide),aF,hL1,bF hSj,bw9,aF];rfl
    cases hfd:(can ns[j']).findSome? (fun x=>qn? (fun s=>t.tr3 s) can ((ns.drop (j'+1)).filter (Ca s)) (oc s ns[j'] x)) with
    |some s'=>
     rw[hfd] at this;dsimp only at this ⊢;rw[hB];exact this
    |none=>
     rw[hfd] at this;dsimp only at this ⊢;obtain⟨z',hz'⟩:=this;rw[hB,hz',bF (show j'<(S.set j' true).length by rw[am8];exact hSj),bw9,bF (show j'<(I.set j' z').length by rw[am8];exact hIj),bw9,show((j':Int)).toNat=j' from rfl,List.set_set,List.set_set]
     have q1:S.set j' false=S:=by
      rw[<-hSf];exact List.set_getElem_self hSj
     have q2:I.set j' (ab.mk false false ([]:B8) 0)=I:=by
      rw[show(ab.mk false false ([]:B8) 0)=I[j'] from hIf.symm];exact List.set_getElem_self hIj
     rw[q1,q2]
end
end Go.Proofs.YtelmfadihfcgnaaGreatDoor
