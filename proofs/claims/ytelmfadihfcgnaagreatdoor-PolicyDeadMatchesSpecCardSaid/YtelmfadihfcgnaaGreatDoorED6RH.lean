/- Part of the proof: D6RB, D6RC, D6RD, D6RE, D6RF, D6RG, D6RH. -/
import Derived.Test.YtelmfadihfcgnaaGreatDoorED6RA
set_option linter.unusedSimpArgs false
set_option linter.unusedVariables false
namespace Go.Proofs.YtelmfadihfcgnaaGreatDoor
open Go Go.Pv
set_option maxRecDepth 100000
theorem LZ:∀t:Tr,t.ok->t.gd->∀F,t.fu+200000000<=F->∀a:List bb,pv a->a.length+t.cnt<=10000000->
  ∃a',GG F t.toT a=some a'/\pv a'/\(∀y,y∈a'<->y∈a\/∃l,l∈t.lvs/\l.nm=y)/\a'.length<=a.length+t.cnt:=Tr.ind fun k nm tx op n ks ih ok hz F hF a ha hl=>by
 rw[Tr.fu] at hF;rw[Tr.cnt] at hl ⊢;obtain⟨hnode,hfl⟩:=gZ hz;obtain⟨F,rfl⟩:∃G,F=G+1:=⟨F - 1,by omega⟩
 show ∃a',yY (GG F) F (Tr.mk k nm tx op n ks).toT a=some a'/\_
 rw[Tr.toT,yY];dsimp only;rcases mN hz with ⟨h1,h2,_,_,h3,_⟩|⟨h1,h3⟩
 ·rw[if_pos (by simpa using h1)];obtain⟨a',e,g1,g2,g3⟩:=rB F a nm (by omega) ha (by omega);refine⟨a',by rw[e];rfl,g1,fun y=>?_,by omega⟩;rw[g2,h3];constructor
  ·rintro(h|h)
   ·exact .inr ⟨⟨k,nm,tx,op,n⟩,by simp,h.symm⟩
   ·exact .inl h
  ·rintro(h|⟨l,h,e⟩)
   ·exact .inr h
   ·simp only[bj9] at h;subst h;exact .inl e.symm
 ·rw[if_neg (by simp[h1])];have hk:=(Tr.okks ok).2;rw[aA,Tr.toKs_len,if_pos (by omega),show(((ks.length:Nat):Int)).toNat=ks.length by omega]
  have hloop:∀m j:Nat,j+m=ks.length->∀a:List bb,pv a->a.length+Tr.cnts (ks.drop j)<=10000000->
    ∃a',mC (GG F) F ⟨k,nm,tx,op,n,Tr.toKs ks⟩ (fun(l7:List B8)=>some l7) m (j:Int) a=some a'/\pv a'/\(∀y,y∈a'<->y∈a\/∃l,l∈Tr.lvss (ks.drop j)/\l.nm=y)/\a'.length<=a.length+Tr.cnts (ks.drop j):=by
   intro m
   induction m with
   |zero=>
    intro j hj a ha hl;rw[mC,al9 (by omega)];exact⟨a,rfl,ha,fun y=>by simp[Tr.lvss],by omega⟩
   |succ m ihm=>
    intro j hj a ha hl;have hn:j<ks.length:=by omega
    have ht:ks[j]∈ks:=ba9 _;rw[bq8 hn,Tr.cnts] at hl;obtain⟨a1,e1,p1,p2,p3⟩:=ih _ ht (Tr.oks_mem (Tr.okks ok).1 ht) (mU hfl ht) F (by have:=Tr.fu_mem ht;omega) a ha (by omega);obtain⟨a2,e2,q1,q2,q3⟩:=ihm (j+1) (by omega) a1 p1 (by omega);rw[mC,fH hn,bv9,Tr.dec,bv9,e1,bv9,show((j:Int)+1)=((j+1:Nat):Int) from rfl,e2,bq8 hn,Tr.cnts];refine⟨a2,rfl,q1,fun y=>?_,by omega⟩;rw[q2,p2,Tr.lvss];constructor
    ·rintro((h|⟨l,h,e⟩)|⟨l,h,e⟩)
     ·exact .inl h
     ·exact .inr ⟨l,cf8 _ h,e⟩
     ·exact .inr ⟨l,List.mem_append_right _ h,e⟩
    ·rintro(h|⟨l,h,e⟩)
     ·exact .inl (.inl h)
     ·rcases bw9.1 h with h|h
      ·exact .inl (.inr ⟨l,h,e⟩)
      ·exact .inr ⟨l,h,e⟩
  obtain⟨a',e,g1,g2,g3⟩:=hloop ks.length 0 (by omega) a ha (by rw[bp9];omega);rw[bp9] at g2 g3;refine⟨a',e,g1,fun y=>by rw[g2,h3],by omega⟩
def Lf.t(l:Lf):aG:=⟨l.k,l.nm,l.tx,l.op,l.n,[]⟩
def Lf.row(l:Lf):aw:=dA ah l.t
theorem Lf.dec(l:Lf):dM ah l.row=some l.t:=Bf oV rfl
def qV(t:Tr)(n:bb):List Lf:=t.lvs.filter fun l=>l.nm==n
theorem rA(t:Tr)(n:bb):(qV t n).length<=t.cnt:=bs8 (ab8 _ _) (Ba t)
theorem rz{t:Tr}{n:bb}{l:Lf}:l∈qV t n<->l∈t.lvs/\l.nm=n:=by
 unfold qV;rw[bv8,beq_iff_eq]
theorem Gu(nm':bb)(hne:nm'≠[]):∀t:Tr,t.ok->t.gd->∀F,t.fu<=F->∀a:List aw,a.length+t.cnt<=10000000->
  qp F t.toT nm' a=some (a++(qV t nm').map Lf.row):=Tr.ind fun k nm tx op n ks ih ok hz F hF a hl=>by
 rw[Tr.fu] at hF;rw[Tr.cnt] at hl;obtain⟨hnode,hfl⟩:=gZ hz;obtain⟨F,rfl⟩:∃G,F=G+1:=⟨F - 1,by omega⟩
 show pk (qp F) F (Tr.mk k nm tx op n ks).toT nm' a=_
 have hk:=(Tr.okks ok).2
 have hloop:∀m j:Nat,j+m=ks.length->∀a:List aw,a.length+Tr.cnts (ks.drop j)<=10000000->
   gE (qp F) F ⟨k,nm,tx,op,n,Tr.toKs ks⟩ nm' (fun(l24:List aw)=>some l24) m (j:Int) a=some (a++((Tr.lvss (ks.drop j)).filter fun l=>l.nm==nm').map Lf.row):=by
  intro m
  induction m with
  |zero=>
   intro j hj a hl;rw[gE,al9 (by omega),Tr.lvss];simp
  |succ m ihm=>
   intro j hj a hl;have hn:j<ks.length:=by omega
   have ht:ks[j]∈ks:=ba9 _;rw[bq8 hn,Tr.cnts] at hl;have hal:=rA ks[j] nm';rw[gE,fH hn,bv9,Tr.dec,bv9,ih _ ht (Tr.oks_mem (Tr.okks ok).1 ht) (mU hfl ht) F (by have:=Tr.fu_mem ht;omega) a (by omega),bv9,show((j:Int)+1)=((j+1:Nat):Int) from rfl,ihm (j+1) (by omega) _ (by rw[be8,bf9];omega),bq8 hn,Tr.lvss,ac8,ck8,bx8];rfl
 rw[Tr.toT,pk];dsimp only;rcases mN hz with ⟨h1,h2,_,_,h3,_⟩|⟨h1,h3⟩
 ·unfold qV;rw[h3];by_cases e:nm=nm'
  ·rw[if_pos (by simpa using e),if_pos (by simp;omega)];subst h2;simp[e,Lf.row,Lf.t,Tr.toKs]
  ·rw[if_neg (by simpa using e),aA,Tr.toKs_len,if_pos (by omega),show(((ks.length:Nat):Int)).toNat=ks.length by omega];have:=hloop ks.length 0 (by omega) a (by rw[bp9];omega);rw[show((0:Nat):Int)=0 from rfl] at this;rw[this,bp9,h2];simp[e,Tr.lvss]
 ·rw[if_neg (by rw[h1,beq_iff_eq];exact fun h=>hne h.symm),aA,Tr.toKs_len,if_pos (by omega),show(((ks.length:Nat):Int)).toNat=ks.length by omega];have:=hloop ks.length 0 (by omega) a (by rw[bp9];omega);rw[show((0:Nat):Int)=0 from rfl] at this;unfold qV;rw[this,bp9,h3]
theorem Gt(nm':bb)(hne:nm'≠[]):∀t:Tr,t.ok->t.gd->t.cnt<=1500000->∀F,t.fu<=F->
  MB F t.toT nm'=some ((qV t nm').map Lf.row):=fun t=>match t with
 | .mk k nm tx op n ks=>fun ok hz hc F hF=>by
  rw[Tr.fu] at hF;rw[Tr.cnt] at hc;obtain⟨hnode,hfl⟩:=gZ hz;have hk:=(Tr.okks ok).2
  have hloop:∀m j:Nat,j+m=ks.length->∀a:List aw,a.length+Tr.cnts (ks.drop j)<=10000000->
    mh F ⟨k,nm,tx,op,n,Tr.toKs ks⟩ nm' (fun(l23:List aw)=>some l23) m (j:Int) a=some (a++((Tr.lvss (ks.drop j)).filter fun l=>l.nm==nm').map Lf.row):=by
   intro m
   induction m with
   |zero=>
    intro j hj a hl;rw[mh,al9 (by omega),Tr.lvss];simp
   |succ m ihm=>
    intro j hj a hl;have hn:j<ks.length:=by omega
    have ht:ks[j]∈ks:=ba9 _;rw[bq8 hn,Tr.cnts] at hl;have hal:=rA ks[j] nm';rw[mh,fH hn,bv9,Tr.dec,bv9,Gu nm' hne _ (Tr.oks_mem (Tr.okks ok).1 ht) (mU hfl ht) F (by have:=Tr.fu_mem ht;omega) a (by omega),bv9,show((j:Int)+1)=((j+1:Nat):Int) from rfl,ihm (j+1) (by omega) _ (by rw[be8,bf9];omega),bq8 hn,Tr.lvss,ac8,ck8,bx8];rfl
  rw[Tr.toT,MB];dsimp only;rcases mN hz with ⟨h1,h2,_,_,h3,_⟩|⟨h1,h3⟩
  ·unfold qV;rw[h3];by_cases e:nm=nm'
   ·rw[if_pos (by simpa using e),if_pos (by simp)];subst h2;simp[e,Lf.row,Lf.t,Tr.toKs]
   ·rw[if_neg (by simpa using e),aA,Tr.toKs_len,if_pos (by omega),show(((ks.length:Nat):Int)).toNat=ks.length by omega];have:=hloop ks.length 0 (by omega) [] (by rw[bp9];simp;omega);rw[show((0:Nat):Int)=0 from rfl] at this;rw[this,bp9,h2];simp[e,Tr.lvss]
  ·rw[if_neg (by rw[h1,beq_iff_eq];exact fun h=>hne h.symm),aA,Tr.toKs_len,if_pos (by omega),show(((ks.length:Nat):Int)).toNat=ks.length by omega];have:=hloop ks.length 0 (by omega) [] (by rw[bp9];simp;omega);rw[show((0:Nat):Int)=0 from rfl] at this;unfold qV;rw[this,bp9,h3];simp
theorem oQ{ls:List Lf}{j:Nat}(h:j<ls.length):cq (ls.map Lf.row) (j:Int)=some ls[j].row:=by
 rw[bt (by simpa using h)];simp
def uT(ls:List Lf):Bool:=ls.any fun l=>l.k==2||l.k==3
def uN(ls:List Lf):Bool:=ls.any fun l=>l.k==5
def uH(ls:List Lf):Bool:=ls.any fun l=>l.k==4
theorem Gs(F:Nat)(ls:List Lf):LC F (ls.map Lf.row)=some (uT ls,uN ls,uH ls):=by
 unfold LC;rw[aA,bf9,show(((ls.length:Nat):Int)).toNat=ls.length by omega]
 have hloop:∀m j:Nat,j+m=ls.length->∀a b c:Bool,mg F (ls.map Lf.row) (fun(b3:Bool) (b4:Bool) (b5:Bool)=>some (b3,b4,b5)) m (j:Int) a b c=some (a||uT (ls.drop j),b||uN (ls.drop j),c||uH (ls.drop j)):=by
  intro m
  induction m with
  |zero=>
   intro j hj a b c;rw[mg,al9 (by omega)];simp[uT,uN,uH]
  |succ m ihm=>
   intro j hj a b c;have hn:j<ls.length:=by omega
   have hstep:=fun a b c=>ihm (j+1) (by omega) a b c;rw[show((j+1:Nat):Int)=(j:Int)+1 from rfl] at hstep;rw[mg,aA,bq8 hn];simp only[oQ hn,Lf.dec,bv9,hstep];unfold uT uN uH;simp only[cb8];have e:ls[j].t.Kind=ls[j].k:=rfl;rw[e];cases a<;>cases b<;>cases c<;>cases h2:(ls[j].k==2)<;>simp
 have:=hloop ls.length 0 (by omega) false false false;rw[bp9] at this;rw[show((0:Nat):Int)=0 from rfl] at this;rw[this];simp
theorem uo:∀(ls:List Lf) (all:tk) (n:bb),(∀l,l∈ls->2<=l.k/\l.k<=5)->(ef (ls.foldl jq all) n).asText=((ef all n).asText||uT (ls.filter fun l=>l.nm==n))/\(ef (ls.foldl jq all) n).asNo=((ef all n).asNo||uN (ls.filter fun l=>l.nm==n))/\(ef (ls.foldl jq all) n).has=((ef all n).has||uH (ls.filter fun l=>l.nm==n))
 |[],all,n,_=>by simp[uT,uN,uH]
 |l::r,all,n,h=>by
  obtain⟨h1,h2,h3⟩:=uo r (jq all l) n fun m hm=>h m (by simp[hm]);have hk:=h l (by simp);rw[bs9,h1,h2,h3,ly,ab9];by_cases e:l.nm=n
  ·rw[if_pos e,if_pos (by simpa using e),e];unfold uT uN uH rI;simp only[cb8];by_cases k2:l.k=2
   ·simp[k2]
   ·by_cases k3:l.k=3
    ·simp[k3]
    ·by_cases k4:l.k=4
     ·simp[k4]
     ·have k5:l.k=5:=by omega
      simp[k5]
  ·rw[if_neg e,if_neg (by simpa using e)];exact⟨Y,Y,Y⟩
theorem zr(ls:List Lf)(hz:∀l,l∈ls->iT l)(n:bb):(ef (eF ls) n).asText=uT (ls.filter fun l=>l.nm==n)/\(ef (eF ls) n).asNo=uN (ls.filter fun l=>l.nm==n)/\(ef (eF ls) n).has=uH (ls.filter fun l=>l.nm==n):=by
 obtain⟨h1,h2,h3⟩:=uo ls [] n fun l hl=>(hz l hl).k;unfold eF;rw[h1,h2,h3];exact⟨Y,Y,Y⟩
theorem He(ls:List Lf)(n:bb):G5 ls n=((ls.filter fun l=>l.nm==n).map lw).sum:=by
 unfold G5
 induction ls with
 |nil=>rfl
 |cons l r ih=>
  rw[bi9,List.sum_cons,ab9,ih];by_cases e:l.nm=n
  ·rw[if_pos e,if_pos (by simpa using e),bi9,List.sum_cons]
  ·rw[if_neg e,if_neg (by simpa using e)];omega
theorem vm(F:Nat)(ls:List Lf)(k:Int->Option Bool)(hl:∀l,l∈ls->iT l)(hlen:ls.length<=1500000):∀(m j:Nat),j+m=ls.length->∀w:Nat,w<=10+100*j->
  gg F (ls.map Lf.row) k ((ls.drop j).map Lf.row) (j:Int) (w:Int)=k ((w+((ls.drop j).map lw).sum:Nat):Int)
 |0,j,hj,w,hw=>by
  rw[al9 (by omega),ao8,gg];rfl
 |m+1,j,hj,w,hw=>by
  have hn:j<ls.length:=by omega
  have ho:=hl ls[j] (ba9 _);have hk:=ho.k;have hlen2:=ho.len;have hb:=JB ho;have ih:=fun w hw=>vm F ls k hl hlen m (j+1) (by omega) w hw;rw[show((j+1:Nat):Int)=(j:Int)+1 from rfl] at ih;rw[bq8 hn,bi9,gg,bi9,List.sum_cons];simp only[oQ hn,Lf.dec,bv9,aA]
  show(if (ls[j].k==2)=true then gg F (ls.map Lf.row) k ((ls.drop (j+1)).map Lf.row) ((j:Int)+1) (bh ((w:Int)+((ls[j].tx.length:Nat):Int))) else if (ls[j].k==3)=true then gg F (ls.map Lf.row) k ((ls.drop (j+1)).map Lf.row) ((j:Int)+1) (bh ((w:Int)+(bh (2*((ls[j].tx.length:Nat):Int))))) else if (ls[j].k==5)=true then gg F (ls.map Lf.row) k ((ls.drop (j+1)).map Lf.row) ((j:Int)+1) (bh ((w:Int)+2)) else gg F (ls.map Lf.row) k ((ls.drop (j+1)).map Lf.row) ((j:Int)+1) (w:Int))=_
  have fin:∀v:Nat,lw ls[j]=v->∀x:Int,x=((w+v:Nat):Int)->gg F (ls.map Lf.row) k ((ls.drop (j+1)).map Lf.row) ((j:Int)+1) x=k ((w+(lw ls[j]+((ls.drop (j+1)).map lw).sum):Nat):Int):=by
   intro v hv x hx;rw[hx,ih (w+v) (by omega),hv,af8]
  unfold lw at fin hb;by_cases k2:ls[j].k=2
  ·rw[if_pos (by rw[k2];rfl)];rw[if_pos k2] at fin hb;rw[fin _ rfl _ (by rw[cc (by omega) (by omega)];omega)]
   congr 1
   unfold lw;rw[if_pos k2]
  rw[if_neg (by simpa using k2)];rw[if_neg k2] at fin hb;by_cases k3:ls[j].k=3
  ·rw[if_pos (by rw[k3];rfl)];rw[if_pos k3] at fin hb;rw[fin _ rfl _ (by rw[cc (n:=2*((ls[j].tx.length:Nat):Int)) (by omega) (by omega),cc (by omega) (by omega)];omega)]
   congr 1
   unfold lw;rw[if_neg k2,if_pos k3]
  rw[if_neg (by simpa using k3)];rw[if_neg k3] at fin hb;by_cases k5:ls[j].k=5
  ·rw[if_pos (by rw[k5];rfl)];rw[if_neg (by omega)] at fin hb;rw[fin _ rfl _ (by rw[cc (by omega) (by omega)];omega)]
   congr 1
   unfold lw;rw[if_neg k2,if_neg k3,if_neg (by omega)]
  ·rw[if_neg (by simpa using k5)];have k4:ls[j].k=4:=by omega
   rw[if_pos k4] at fin hb;rw[fin _ rfl _ (by omega)]
   congr 1
   unfold lw;rw[if_neg k2,if_neg k3,if_pos k4]
def fD(w:bb->Int):List bb->Int
 |[]=>1
 |n::r=>w n*fD w r
theorem r6{w:bb->Int}{l l':List bb}(h:l.Perm l'):fD w l=fD w l':=by
 induction h with
 |nil=>rfl
 |cons x _ ih=>simp only[fD,ih]
 |swap x y l=>simp only[fD];rw[<-Int.mul_assoc,<-Int.mul_assoc,Int.mul_comm (w y)]
 |trans _ _ a b=>exact a.trans b
theorem ux{w:bb->Int}:∀{l:List bb},(∀n,n∈l->2<=w n)->((2 ^ l.length:Nat):Int)<=fD w l
 |[],_=>by simp[fD]
 |n::r,h=>by
  have h1:=h n (by simp);have h2:=ux (l:=r) fun m hm=>h m (by simp[hm])
  have h3:(1:Int)<=((2 ^ r.length:Nat):Int):=by
   have:=Nat.one_le_two_pow (n:=r.length);omega
  rw[fD,bt8,Nat.pow_succ,an8];have:=Int.mul_le_mul h1 h2 (by omega) (by omega);rw[Int.natCast_mul];exact this
theorem B7{w:bb->Int}{l:List bb}(h:∀n,n∈l->2<=w n):1<=fD w l:=by
 have h1:=ux h;have:=Nat.one_le_two_pow (n:=l.length);omega
def C4(t:Tr)(n:bb):Int:=Db (ef (eF t.lvs) n)
theorem AG{t:Tr}(hg:fQ t.lvs)(n:bb):2<=C4 t n/\C4 t n<=600003:=by
 have h1:=((yo hg).ok n).wt;have h2:=AH hg n;unfold C4 Db;split<;>omega
theorem HD{t:Tr}(hg:fQ t.lvs):fq (eF t.lvs)=fD (C4 t) ((eF t.lvs).map (·.1)):=by
 have:∀l:tk,(∀p,p∈l->p∈eF t.lvs)->fq l=fD (C4 t) (l.map (·.1)):=by
  intro l
  induction l with
  |nil=>intro _;rfl
  |cons p r ih=>
   intro h;rw[fq,bi9,fD,ih fun q hq=>h q (by simp[hq])]
   congr 1
   unfold AF;rw[Jx hg (h p (by simp))];rfl
 exact this _ fun _ h=>h
theorem xC(t:Tr)(hz:t.gd)(n:bb):(ef (eF t.lvs) n).asText=uT (qV t n)/\(ef (eF t.lvs) n).asNo=uN (qV t n)/\(ef (eF t.lvs) n).has=uH (qV t n):=zr t.lvs (vZ t hz) n
theorem KM{ls:List Lf}(hg:fQ ls){n:bb}(h:n∈tK ls):n≠[]:=by
 obtain⟨l,hl,e⟩:=(oJ hg).1 h;exact e ▸ sk (hg.1 l hl).nm
theorem GF(t:Tr)(ok:t.ok)(hz:t.gd)(hc:t.cnt<=1500000)(F:Nat)(hF:t.fu+200000000<=F):
  ∃ns,GG F t.toT []=some ns/\pv ns/\∀y,y∈ns<->∃l,l∈t.lvs/\l.nm=y:=by
 obtain⟨ns,e,h1,h2,_⟩:=LZ t ok hz F hF [] (by simp) (by simp;omega);exact⟨ns,e,h1,fun y=>by rw[h2];simp⟩
theorem HI{t:Tr}(hg:fQ t.lvs){ns:List bb}(h1:pv ns)(h2:∀y,y∈ns<->∃l,l∈t.lvs/\l.nm=y):ns.Perm (tK t.lvs):=
 (List.perm_ext_iff_of_nodup (h1.imp u4) (uD hg)).2 fun y=>by rw[h2,oJ hg]
theorem vn(F:Nat)(t:Tr)(ok:t.ok)(hz:t.gd)(hc:t.cnt<=1500000)(hg:fQ t.lvs)(hF:t.fu+200000000<=F)(ns:List bb)(hns:∀n,n∈ns->n≠[])(hlen:ns.length<=6000):
  ∀(fuel j:Nat),ns.length<fuel+j->j<=ns.length->∀p:Int,1<=p->p<=200000*600003->
  iN F t.toT ns (fun(n5:Int)=>some (decide (n5>200000))) fuel p (j:Int)=some (decide (200000<p*fD (C4 t) (ns.drop j)))
 |0,j,h,h2,p,_,_=>by omega
 |fuel+1,j,h,h2,p,hp1,hp2=>by
  rw[iN];have hpos:1<=fD (C4 t) (ns.drop j):=B7 fun n _=>(AG hg n).1;by_cases hj:j<ns.length
  ·rw[if_pos (decide_eq_true (by omega))];by_cases hp:p<=200000
   ·rw[if_pos (decide_eq_true hp),aA,bt hj,bv9,Gt ns[j] (hns _ (ba9 _)) t ok hz hc F (by omega),bv9,aA];have hlo:∀l,l∈qV t ns[j]->iT l:=fun l hl=>vZ t hz l (rz.1 hl).1;have hab:=rA t ns[j]
    have hw:=vm F (qV t ns[j]) (fun n19=>(LC F ((qV t ns[j]).map Lf.row)).bind fun y43=>if (y43.2.2)=true then iN F t.toT ns (fun(n5:Int)=>some (decide (n5>200000))) fuel (bh (p*(bh (n19+1)))) (bh ((j:Int)+1))
     else if (y43.1)=true then jn (fun(n48:Int)=>iN F t.toT ns (fun(n5:Int)=>some (decide (n5>200000))) fuel (bh (p*n48)) (bh ((j:Int)+1))) (fun k47=>if (y43.2.1)=true then k47 (bh (n19+1))
     else k47 n19)
     else iN F t.toT ns (fun(n5:Int)=>some (decide (n5>200000))) fuel (bh (p*n19)) (bh ((j:Int)+1))) hlo (by omega) (qV t ns[j]).length 0 (by omega) 2 (by omega)
    rw[bp9] at hw;rw[show((0:Nat):Int)=0 from rfl,show((2:Nat):Int)=2 from rfl] at hw;rw[hw,Gs,bv9,aA];dsimp only;have hsm:((qV t ns[j]).map lw).sum=G5 t.lvs ns[j]:=(He _ _).symm;rw[hsm];have h6:=AH hg ns[j];have hwt:=((yo hg).ok ns[j]).wt;obtain⟨f1,f2,f3⟩:=xC t hz ns[j]
    have fin:∀x:Int,x=C4 t ns[j]->iN F t.toT ns (fun(n5:Int)=>some (decide (n5>200000))) fuel (bh (p*x)) (bh ((j:Int)+1))=some (decide (200000<p*fD (C4 t) (ns.drop j))):=by
     intro x hx;obtain⟨r1,r2⟩:=AG hg ns[j];have q1:1*1<=p*x:=Int.mul_le_mul hp1 (by omega) (by omega) (by omega);have q2:p*x<=200000*600003:=Int.mul_le_mul hp (by omega) (by omega) (by omega);rw[cc (n:=p*x) (by omega) (by omega),cc (n:=(j:Int)+1) (by omega) (by omega),show((j:Int)+1)=((j+1:Nat):Int) from rfl,vn F t ok hz hc hg hF ns hns hlen fuel (j+1) (by omega) (by omega) _ (by omega) (by omega),bq8 hj,fD,hx,Int.mul_assoc]
    unfold C4 Db at fin;rw[f1,f2,f3,hwt] at fin;cases e3:uH (qV t ns[j]) with
    |true=>
     rw[if_pos rfl];exact fin _ (by rw[e3,Bool.true_or,if_pos Y,cc (by omega) (by omega)];omega)
    |false=>
     rw[if_neg (by simp)];cases e1:uT (qV t ns[j]) with
     |true=>
      rw[if_pos rfl];cases e2:uN (qV t ns[j]) with
      |true=>
       rw[if_pos rfl];exact fin _ (by rw[e3,e1,e2,if_pos (by rfl),cc (by omega) (by omega)];omega)
      |false=>
       rw[if_neg (by simp)];exact fin _ (by rw[e3,e1,e2,if_neg (by simp)];omega)
     |false=>
      rw[if_neg (by simp)];exact fin _ (by rw[e3,e1,if_neg (by simp)];omega)
   ·rw[if_neg (by simpa using hp)];have:p*1<=p*fD (C4 t) (ns.drop j):=Int.mul_le_mul_of_nonneg_left hpos (by omega);rw[decide_eq_true (by omega),decide_eq_true (by omega)]
  ·rw[if_neg (by simp;omega),al9 (by omega),fD,Int.mul_one]
theorem L1(t:Tr)(ok:t.ok)(hz:t.gd)(hc:t.cnt<=1500000)(hg:fQ t.lvs)(F:Nat)(hF:t.fu+200000000<=F):L2 F t.toT=some (!wo t.lvs):=by
 obtain⟨ns,e,h1,h2⟩:=GF t ok hz hc F hF;have h2:=HI hg h1 h2;have hl:=vW t.lvs;have hlen:ns.length<=6000:=by rw[h2.length_eq,hl];have:=(yo hg).ln;have:=hg.2;omega
 unfold L2 wo;rw[e,bv9,aA,show(0:Int)=((0:Nat):Int) from rfl,vn F t ok hz hc hg hF ns (fun n hn=>KM hg (h2.mem_iff.1 hn)) hlen F 0 (by omega) (by omega) 1 (by omega) (by omega),bp9,Int.one_mul,r6 h2,HD hg];unfold tK;rw[r6 (ei ((eF t.lvs).map (·.1)))]
 congr 1
 by_cases h:fD (C4 t) ((eF t.lvs).map (·.1))<=200000
 ·rw[decide_eq_true h,decide_eq_false (by omega)];rfl
 ·rw[decide_eq_false h,decide_eq_true (by omega)];rfl
theorem Ik{n:Nat}{bg:List bb}{x:bb}{c:UInt8}(h:yD n bg x=false)(hn:n<=x.length):yD n bg (x++[c])=decide (x++[c]∈bg):=by
 by_cases hm:x++[c]∈bg
 ·rw[decide_eq_true hm];unfold yD;rw[cc9];exact⟨_,hm,by rw[ap9,decide_eq_true_eq,kx];exact⟨by simp;omega,List.prefix_refl _⟩⟩
 ·rw[decide_eq_false hm];rw[fy] at h ⊢;intro b hb hl hp;rcases List.prefix_concat_iff.1 hp with e|hp
  ·exact hm (e ▸ hb)
  ·exact h b hb hl hp
theorem tw(F:Nat)(n0:Nat)(a2:List bb)(x:bb)(k:List bb->Option (bb×Bool))(h2:pv a2)(hl2:a2.length<=1000000)(hF:a2.length<F)(hx:x.length<1000)(hb:yD n0 a2 x=false)(hn:n0<=x.length):∀(d c:Nat),c+d=127->32<=c->∀fuel,d<fuel->∀l:List bb,l.length+d<=100000000->
  gw F a2 x k fuel (c:Int) l=k (l++dI n0 a2 x c)
 |0,c,hc,h32,fuel,hf,l,hl=>by
  obtain⟨fuel,rfl⟩:∃g,fuel=g+1:=⟨fuel - 1,by omega⟩
  have:dI n0 a2 x c=[]:=by
   unfold dI;rw[show 127 - c=0 by omega];rfl
  rw[gw,if_neg (by simp;omega),this];simp
 |d+1,c,hc,h32,fuel,hf,l,hl=>by
  obtain⟨fuel,rfl⟩:∃g,fuel=g+1:=⟨fuel - 1,by omega⟩;have hw:=xn ⟨c,by omega⟩;dsimp only at hw;have hch:(([(c:Int)]:List Int).map fun n=>UInt8.ofNat n.toNat)=[UInt8.ofNat c]:=rfl;rw[gw,if_pos (decide_eq_true (by omega)),if_pos (decide_eq_true (by omega)),hch,if_pos (by simp;omega),Gy F a2 _ (by omega) h2 hF,bv9,aA,hw,sA (by omega),Ik hb hn];have ih:=tw F n0 a2 x k h2 hl2 hF hx hb hn d (c+1) (by omega) (by omega) fuel (by omega);rw[show((c+1:Nat):Int)=(c:Int)+1 by omega] at ih;by_cases hm:x++[UInt8.ofNat c]∈a2
  ·rw[decide_eq_true hm,if_neg (by simp),if_pos rfl];dsimp only;rw[ih l (by omega)];simp
  ·rw[decide_eq_false hm,if_pos (by simp),if_neg (show ¬(false=true) by simp),if_pos (by simp;omega)];dsimp only;rw[ih _ (by simp;omega),bx8]
theorem w9(F:Nat)(a2:List bb)(x:bb)(k:List bb->Option (bb×Bool))(hx:¬x.length<1000)(fuel:Nat)(hf:0<fuel)(l:List bb):gw F a2 x k fuel 32 l=k l:=by
 obtain⟨fuel,rfl⟩:∃g,fuel=g+1:=⟨fuel - 1,by omega⟩;rw[gw,if_pos (by decide),if_neg (by simp;omega)]
structure Qr(a1:bb)(a2 a3:List bb)(l:List bb)(n:Nat):Prop where
 nd:l.Nodup
 hd:l[0]? = some a1
 ok:∀q,q∈l->a1 <+: q/\sf q/\yD a1.length a2 q=false
 par:∀j q,l[j]? = some q->0<j->∃i p c,i<n/\l[i]? = some p/\q=p++[c]
 cl:∀j q,j<n->l[j]? = some q->q∈a3/\(q.length<1000->∀y,y∈dI a1.length a2 q 32->y∈l)
 ln:l.length<=1+95*n
theorem Qr.len{a1:bb}{a2 a3 l:List bb}{n:Nat}(h:Qr a1 a2 a3 l n)(hn:n<=l.length):n<=a3.length:=by
 have:=fX (l:=l.take n) (m:=a3) (h.nd.sublist (List.take_sublist _ _)) fun y hy=>by
  obtain⟨j,hj,e⟩:=bf8 hy;rw[List.getElem_take] at e;rw[bg9] at hj;exact(h.cl j y (by omega) (by rw[ax8 (by omega),e])).1
 rw[bg9] at this;omega
theorem oj(F:Nat)(a1:bb)(a2 a3:List bb)(k4:Option (bb×Bool))(h2:pv a2)(h3:pv a3)(hF:200<=F)(hF2:a2.length<F)(hF3:a3.length<F)(ha2:a2.length<=1000000)(ha:a3.length<=1000000):∀(fuel n:Nat) (l:List bb),Qr a1 a2 a3 l n->n<=l.length->a3.length+2<=n+fuel->
  (∃t,ia F a2 a3 k4 fuel (l.drop n)=some (t,true)/\dS a3 a2 a1 t)\/(ia F a2 a3 k4 fuel (l.drop n)=k4/\∃l',Qr a1 a2 a3 l' l'.length)
 |0,n,l,h,hn,hf=>by have:=h.len hn;omega
 |fuel+1,n,l,h,hn,hf=>by
  have hll:=h.len hn;have hln:=h.ln;rw[ia];by_cases hnl:n<l.length
  ·have hd:l.drop n=l[n]::l.drop (n+1):=bq8 hnl;have hx:l[n]? = some l[n]:=ax8 hnl;obtain⟨x,hxe⟩:∃x,x=l[n]:=⟨_,rfl⟩;rw[<-hxe] at hx hd;have hxm:=aw8 hx;obtain⟨o1,o2,o3⟩:=h.ok x hxm;rw[if_pos (decide_eq_true (by rw[hd];simp)),aA,hd,show cq (x::l.drop (n+1)) 0=some x from rfl,bv9,if_pos (by simp),Gy F a3 x (by omega) h3 hF3,bv9,bo8,bp9];by_cases hx3:x∈a3
   ·rw[decide_eq_true hx3,if_neg (by simp),aA];have hxl:x.length<=1000:=o2.1;by_cases h1000:x.length<1000
    ·have hin:=tw F a1.length a2 x (fun l17=>(fun l9=>ia F a2 a3 k4 fuel l9) l17) h2 ha2 hF2 h1000 o3 o1.length_le 95 32 rfl (by omega) F (by omega) (l.drop (n+1)) (by rw[am9];omega);rw[show((32:Nat):Int)=32 from rfl] at hin;rw[hin];dsimp only
     have hok:∀y,y∈dI a1.length a2 x 32->a1 <+: y/\sf y/\yD a1.length a2 y=false:=by
      intro y hy;obtain⟨⟨c,c1,c2,rfl⟩,hb⟩:=gB.1 hy;refine⟨o1.trans (List.prefix_append _ _),⟨by simp;omega,fun d hd=>?_⟩,hb⟩;rcases bw9.1 hd with hd|hd
      ·exact o2.2 d hd
      ·simp only[bj9] at hd;subst hd;exact⟨c1,c2⟩
     have hkl:=Fg a1.length a2 x;rw[show l.drop (n+1)++dI a1.length a2 x 32=(l++dI a1.length a2 x 32).drop (n+1) by rw[List.drop_append_of_le_length (by omega)]];refine oj F a1 a2 a3 k4 h2 h3 hF hF2 hF3 ha2 ha fuel (n+1) (l++dI a1.length a2 x 32) ⟨?_,?_,fun q hq=>?_,fun j q hj h0=>?_,fun j q hj hq=>?_,by rw[be8];omega⟩ (by simp;omega) (by omega)
     ·rw[bw8];refine⟨h.nd,sy _ _ _,fun a hal b hbk e=>?_⟩;subst e;obtain⟨⟨c,c1,c2,rfl⟩,hb⟩:=gB.1 hbk;obtain⟨j,hj⟩:=ba8 hal;by_cases h0:j=0
      ·subst h0;rw[h.hd] at hj;have:=congrArg List.length (ah8 hj);have:=o1.length_le;simp at *;omega
      ·obtain⟨i,p,d,g2,g3,g4⟩:=h.par j _ hj (by omega);have e2:=List.append_inj' g4 rfl;rw[<-e2.1] at g3;have hi:i<l.length:=(bb9.1 g3).1;have:=(List.getElem?_inj hi h.nd).1 (g3.trans hx.symm);omega
     ·rw[as9 (by have:=(bb9.1 h.hd).1;omega)];exact h.hd
     ·rcases bw9.1 hq with hq|hq
      ·exact h.ok q hq
      ·exact hok q hq
     ·by_cases hjl:j<l.length
      ·rw[as9 hjl] at hj;obtain⟨i,p,c,g2,g3,g4⟩:=h.par j q hj h0;exact⟨i,p,c,by omega,by rw[as9 (by have:=(bb9.1 g3).1;omega)];exact g3,g4⟩
      ·rw[as8 (by omega)] at hj;have hq:=aw8 hj;obtain⟨⟨c,c1,c2,rfl⟩,hb⟩:=gB.1 hq;exact⟨n,x,c,by omega,by rw[as9 hnl];exact hx,rfl⟩
     ·by_cases e:j=n
      ·subst e;rw[as9 hnl,hx] at hq;cases hq;exact⟨hx3,fun _ y hy=>List.mem_append_right _ hy⟩
      ·rw[as9 (by omega)] at hq;obtain⟨g1,g2⟩:=h.cl j q (by omega) hq;exact⟨g1,fun hl y hy=>cf8 _ (g2 hl y hy)⟩
    ·rw[w9 F a2 x _ h1000 F (by omega)];dsimp only;refine oj F a1 a2 a3 k4 h2 h3 hF hF2 hF3 ha2 ha fuel (n+1) l ⟨h.nd,h.hd,h.ok,fun j q hj h0=>?_,fun j q hj hq=>?_,by omega⟩ hnl (by omega)
     ·obtain⟨i,p,c,g2,g3⟩:=h.par j q hj h0;exact⟨i,p,c,by omega,g3⟩
     ·by_cases e:j=n
      ·subst e;rw[hx] at hq;cases hq;exact⟨hx3,fun hl=>by omega⟩
      ·exact h.cl j q (by omega) hq
   ·rw[decide_eq_false hx3,if_pos (by simp)];exact .inl ⟨x,Y,o1,o2,hx3,fy.1 o3⟩
  ·rw[if_neg (by simp;omega)];have:n=l.length:=by omega
   subst this;exact .inr ⟨Y,l,h⟩
theorem Qr.none{a1:bb}{a2 a3 l:List bb}(h:Qr a1 a2 a3 l l.length)(t:bb):¬dS a3 a2 a1 t:=by
 intro hf
 have key:∀k,a1.length+k<=t.length->t.take (a1.length+k)∈l:=by
  intro k
  induction k with
  |zero=>
   intro _;rw[bd9,<-List.prefix_iff_eq_take.1 hf.pre];exact aw8 h.hd
  |succ k ih=>
   intro hk;have hp:=ih (by omega);obtain⟨j,hj⟩:=ba8 hp;have hlt:a1.length+k<t.length:=by omega
   obtain⟨_,g⟩:=h.cl j _ (bb9.1 hj).1 hj;have hlen:(t.take (a1.length+k)).length<1000:=by have:=hf.ok.1;simp;omega
   refine g hlen _ (gB.2 ⟨⟨t[a1.length+k],?_,?_,?_⟩,fy.2 fun b hb hl hp=>?_⟩)
   ·exact(hf.ok.2 _ (ba9 hlt)).1
   ·exact(hf.ok.2 _ (ba9 hlt)).2
   ·rw[show a1.length+(k+1)=(a1.length+k)+1 by omega,List.take_succ_eq_append_getElem hlt]
   ·exact hf.no b hb hl (hp.trans (List.take_prefix _ _))
 have hle:=hf.pre.length_le;have:=key (t.length - a1.length) (by omega);rw[show a1.length+(t.length - a1.length)=t.length by omega,List.take_length] at this;obtain⟨j,hj⟩:=ba8 this;exact hf.not (h.cl j t (bb9.1 hj).1 hj).1
theorem IM(F:Nat)(a1:bb)(a2 a3:List bb)(h2:pv a2)(h3:pv a3)(hF2:a2.length<F)(hF:a3.length+200<=F)(ha2:a2.length<=1000000)(ha:a3.length<=1000000)(h1:sf a1):
  (∃t,AB F a1 a2 a3=some (t,true)/\dS a3 a2 a1 t)\/(AB F a1 a2 a3=some ([],false)/\∀t,¬dS a3 a2 a1 t):=by
 have hb:yD a1.length a2 a1=false:=fy.2 fun b _ hl hp=>by have:=hp.length_le;omega
 have h0:Qr a1 a2 a3 [a1] 0:=⟨by simp,rfl,fun q hq=>by simp only[bj9] at hq;subst hq;exact⟨List.prefix_refl _,h1,hb⟩,fun j q hj h0=>by
  obtain⟨j,rfl⟩:∃i,j=i+1:=⟨j - 1,by omega⟩;simp at hj,fun j q hj=>by omega,by simp⟩
 rcases oj F a1 a2 a3 (some ([],false)) h2 h3 (by omega) hF2 (by omega) ha2 ha F 0 [a1] h0 (by simp) (by omega) with ⟨t,e,hf⟩|⟨e,l',hl⟩
 ·rw[bp9] at e;exact .inl ⟨t,by unfold AB;rw[aA];exact e,hf⟩
 ·rw[bp9] at e;exact .inr ⟨by unfold AB;rw[aA];exact e,hl.none⟩
def Fk(ls:List Lf)(x:bb):Prop:=∃l,l∈ls/\l.k=2/\x∈l.tx
def F8(ls:List Lf)(x:bb):Prop:=∃l,l∈ls/\l.k≠2/\x∈l.tx
theorem oq(F:Nat)(ls:List Lf)(j:Nat)(hj:j<ls.length)(k:List bb->List bb->Option (List bb))(hF:200000000<=F)(htx:ls[j].tx.length<=50):∀(fuel i:Nat),ls[j].tx.length<fuel+i->i<=ls[j].tx.length->∀A B:List bb,pv A->pv B->A.length+B.length+(ls[j].tx.length - i)<=80000000->
  ∃A' B',kI F (ls.map Lf.row) (j:Int) k fuel A B (i:Int)=k A' B'/\pv A'/\pv B'/\(∀x,x∈A'<->x∈A\/(ls[j].k=2/\x∈ls[j].tx.drop i))/\(∀x,x∈B'<->x∈B\/(ls[j].k≠2/\x∈ls[j].tx.drop i))/\A'.length+B'.length<=A.length+B.length+(ls[j].tx.length - i)
 |0,i,h,h2,A,B,_,_,_=>by omega
 |fuel+1,i,h,h2,A,B,hA,hB,hl=>by
  rw[kI];simp only[oQ hj,Lf.dec,bv9]
  show ∃A' B',(if (decide ((i:Int)<((ls[j].tx.length:Nat):Int)))=true then _ else _)=_/\_
  by_cases hi:i<ls[j].tx.length
  ·rw[if_pos (decide_eq_true (by omega)),aA];have hix:cq ls[j].t.Texts (i:Int)=some ls[j].tx[i]:=bt hi;rw[hix];simp only[bv9];have hw:bh ((i:Int)+1)=((i+1:Nat):Int):=by rw[cc (by omega) (by omega)];rfl
   rw[hw,show ls[j].t.Kind=ls[j].k from rfl];by_cases k2:ls[j].k=2
   ·rw[if_pos (by rw[k2];rfl)];obtain⟨A1,e1,p1,p2,p3⟩:=rB F A ls[j].tx[i] (by omega) hA (by omega);obtain⟨A',B',g1,g2,g3,g4,g5,g6⟩:=oq F ls j hj k hF htx fuel (i+1) (by omega) (by omega) A1 B p1 hB (by omega);refine⟨A',B',by rw[e1];exact g1,g2,g3,fun x=>?_,fun x=>?_,by omega⟩
    ·rw[g4,p2,bq8 hi,aq8];constructor
     ·rintro((h|h)|h)
      ·exact .inr ⟨k2,.inl h⟩
      ·exact .inl h
      ·exact .inr ⟨k2,.inr h.2⟩
     ·rintro(h|⟨_,h|h⟩)
      ·exact .inl (.inr h)
      ·exact .inl (.inl h)
      ·exact .inr ⟨k2,h⟩
    ·rw[g5];exact or_congr Iff.rfl ⟨fun h=>absurd k2 h.1,fun h=>absurd k2 h.1⟩
   ·rw[if_neg (by simpa using k2)];obtain⟨B1,e1,p1,p2,p3⟩:=rB F B ls[j].tx[i] (by omega) hB (by omega);obtain⟨A',B',g1,g2,g3,g4,g5,g6⟩:=oq F ls j hj k hF htx fuel (i+1) (by omega) (by omega) A B1 hA p1 (by omega);refine⟨A',B',by rw[e1];exact g1,g2,g3,fun x=>?_,fun x=>?_,by omega⟩
    ·rw[g4];exact or_congr Iff.rfl ⟨fun h=>absurd h.1 k2,fun h=>absurd h.1 k2⟩
    ·rw[g5,p2,bq8 hi,aq8];constructor
     ·rintro((h|h)|h)
      ·exact .inr ⟨k2,.inl h⟩
      ·exact .inl h
      ·exact .inr ⟨k2,.inr h.2⟩
     ·rintro(h|⟨_,h|h⟩)
      ·exact .inl (.inr h)
      ·exact .inl (.inl h)
      ·exact .inr ⟨k2,h⟩
  ·rw[if_neg (by simp;omega)];have:ls[j].tx.drop i=[]:=al9 (by omega);exact⟨A,B,rfl,hA,hB,fun x=>by rw[this];simp,fun x=>by rw[this];simp,by omega⟩
theorem tB(F:Nat)(ls:List Lf)(k:List bb->List bb->Option (List bb))(hF:200000000<=F)(htx:∀l,l∈ls->l.tx.length<=50):∀(m j:Nat),j+m=ls.length->∀A B:List bb,pv A->pv B->A.length+B.length+50*m<=80000000->
  ∃A' B',ig F (ls.map Lf.row) k m (j:Int) A B=k A' B'/\pv A'/\pv B'/\(∀x,x∈A'<->x∈A\/Fk (ls.drop j) x)/\(∀x,x∈B'<->x∈B\/F8 (ls.drop j) x)/\A'.length+B'.length<=A.length+B.length+50*m
 |0,j,hj,A,B,hA,hB,hl=>by
  rw[ig,al9 (by omega)];exact⟨A,B,rfl,hA,hB,fun x=>by simp[Fk],fun x=>by simp[F8],by omega⟩
 |m+1,j,hj,A,B,hA,hB,hl=>by
  have hn:j<ls.length:=by omega
  have ht:=htx ls[j] (ba9 _);rw[ig,aA,aA];obtain⟨A1,B1,e1,p1,p2,p3,p4,p5⟩:=oq F ls j hn (fun l16 l17=>(fun l13 l14=>ig F (ls.map Lf.row) k m ((j:Int)+1) l13 l14) l16 l17) hF ht F 0 (by omega) (by omega) A B hA hB (by omega);obtain⟨A',B',g1,g2,g3,g4,g5,g6⟩:=tB F ls k hF htx m (j+1) (by omega) A1 B1 p1 p2 (by omega);rw[show((0:Nat):Int)=0 from rfl] at e1;refine⟨A',B',e1.trans g1,g2,g3,fun x=>?_,fun x=>?_,by omega⟩
  ·rw[g4,p3,bp9,bq8 hn];unfold Fk;simp only[aq8,exists_eq_or_imp,or_assoc]
  ·rw[g5,p4,bp9,bq8 hn];unfold F8;simp only[aq8,exists_eq_or_imp,or_assoc]
structure Sm(ls sm:List Lf):Prop where
 sub:∀l,l∈ls->l∈sm
 ok:∀l,l∈sm->iT l
 ln:sm.length<=12000
theorem oo(F:Nat)(is bg:List bb)(hi:pv is)(hb:pv bg)(hF:200000000<=F)(hl1:is.length<=600000)(hl2:bg.length<=600000)(k:List bb->Option (List bb)):∀(l acc:List bb),(∀p,p∈l->sf p)->acc.length+l.length<=10000000->
  ∃fs,ie F is bg k l acc=k (acc++fs)/\fs.length<=l.length/\(∀p,p∈l->(∃t,dS is bg p t/\t∈fs)\/∀t,¬dS is bg p t)/\∀x,x∈fs->∃p,dS is bg p x
 |[],acc,_,_=>⟨[],by rw[ie];simp,ae8 _,by simp,by simp⟩
 |p::l,acc,h,hl=>by
  simp only[bt8] at hl;rw[ie];rcases IM F p bg is hb hi (by omega) (by omega) (by omega) (by omega) (h p (by simp)) with ⟨t,e,hf⟩|⟨e,hf⟩
  ·obtain⟨fs,g1,g2,g3,g4⟩:=oo F is bg hi hb hF hl1 hl2 k l (acc++[t]) (fun q hq=>h q (by simp[hq])) (by simp;omega);refine⟨t::fs,?_,by simp;omega,fun q hq=>?_,fun x hx=>?_⟩
   ·rw[e,bv9,aA];dsimp only;rw[if_pos rfl,if_pos (by simp;omega),g1];simp
   ·rcases aq8.1 hq with e2|hq
    ·subst e2;exact .inl ⟨t,hf,by simp⟩
    ·rcases g3 q hq with ⟨u,h1,h2⟩|h1
     ·exact .inl ⟨u,h1,by simp[h2]⟩
     ·exact .inr h1
   ·rcases aq8.1 hx with e2|hx
    ·subst e2;exact⟨p,hf⟩
    ·exact g4 x hx
  ·obtain⟨fs,g1,g2,g3,g4⟩:=oo F is bg hi hb hF hl1 hl2 k l acc (fun q hq=>h q (by simp[hq])) (by omega);refine⟨fs,?_,by simp;omega,fun q hq=>?_,g4⟩
   ·rw[e,bv9,aA];dsimp only;rw[if_neg (by decide),g1]
   ·rcases aq8.1 hq with e2|hq
    ·subst e2;exact .inr hf
    ·exact g3 q hq
theorem IT(F:Nat)(ls:List Lf)(hF:200000000<=F)(hlo:∀l,l∈ls->iT l)(hlen:ls.length<=1500000){sm:List Lf}(hsm:Sm ls sm):
  ∃is bg out,AD F (ls.map Lf.row)=some out/\(∀x,x∈is<->Fk ls x)/\(∀x,x∈bg<->F8 ls x)/\Gp is bg out/\out.length<=1300000:=by
 unfold AD;rw[aA,bf9,show(((ls.length:Nat):Int)).toNat=ls.length by omega];obtain⟨is,bg,e,h1,h2,h3,h4,h5⟩:=tB F ls (fun(l3:List B8) (l4:List B8)=>if l3.length*16<=140737488355328 then (xe F l4 ([]:B8)).bind fun y55=>jn (fun(l58:List B8)=>some l58) (fun k57=>ie F l3 l4 k57 y55 l3) else none) hF (fun l hl=>(hlo l hl).len) ls.length 0 (by omega) [] [] (by simp) (by simp) (by simp;omega);simp only[bn9,ca8,bp9,List.not_mem_nil,false_or] at h3 h4 h5;rw[show((0:Nat):Int)=0 from rfl] at e
 have hU:(sm.flatMap Lf.tx).length<=600000:=by
  have:=lR Lf.tx 50 sm fun l hl=>(hsm.ok l hl).len;have:=hsm.ln;omega
 have hi6:is.length<=600000:=bs8 (fX (h1.imp u4) fun x hx=>by
  obtain⟨l,hl,_,hx⟩:=(h3 x).1 hx;exact ad9.2 ⟨l,hsm.sub l hl,hx⟩) hU
 have hb6:bg.length<=600000:=bs8 (fX (h2.imp u4) fun x hx=>by
  obtain⟨l,hl,_,hx⟩:=(h4 x).1 hx;exact ad9.2 ⟨l,hsm.sub l hl,hx⟩) hU
 obtain⟨b2,e2,q1,q2,q3⟩:=rB F bg [] (by omega) h2 (by omega)
 have hbo:∀b,b∈bg->sf b:=fun b hb=>by
  obtain⟨l,hl,_,hx⟩:=(h4 b).1 hb;exact(hlo l hl).tx b hx
 have h0:sf []:=⟨by simp,by simp⟩;obtain⟨fs,g1,g2,g3,g4⟩:=oo F is bg h1 h2 hF (by omega) (by omega) (fun l58=>some l58) b2 is (fun p hp=>((q2 p).1 hp).elim (fun e=>e ▸ h0) (hbo p)) (by omega);refine⟨is,bg,is++fs,?_,h3,h4,⟨fun e he=>cf8 _ he,fun p hp=>?_,fun x hx=>?_⟩,by rw[be8];omega⟩
 ·rw[e,if_pos (by omega),e2,bv9,aA];exact g1
 ·rcases g3 p ((q2 p).2 hp.symm) with ⟨t,a,b⟩|h
  ·exact .inl ⟨t,a,List.mem_append_right _ b⟩
  ·exact .inr h
 ·rcases bw9.1 hx with hx|hx
  ·exact .inl hx
  ·obtain⟨p,hp⟩:=g4 x hx;exact .inr hp.ok
abbrev Aw(l:List Int):Prop:=l.Pairwise (fun a b=>a<b)
theorem tu(F:Nat)(a:List Int)(x:Int)(ha:Aw a)(hl:a.length<=10000000):∀(m j:Nat),j+m=a.length->(∀y,y∈a.take j->y<x)->
  ∃out,i9 F a x (fun(l4:List Int)=>if (l4++([x]:List Int)).length*8<=140737488355328 then some (l4++([x]:List Int)) else none) (a.drop j) (j:Int) (a.take j)=some out/\Aw out/\(∀y,y∈out<->y=x\/y∈a)/\out.length<=a.length+1
 |0,j,hj,h=>by
  rw[al9 (by omega),i9,List.take_of_length_le (by omega),if_pos (by simp;omega)];rw[List.take_of_length_le (by omega)] at h;refine⟨_,rfl,bq9.2 ⟨ha,by simp,fun b hb c hc=>?_⟩,fun y=>by simp[or_comm],by simp⟩;simp only[bj9] at hc;rw[hc];exact h b hb
 |m+1,j,hj,h=>by
  have hn:j<a.length:=by omega
  rw[bq8 hn,i9];by_cases e:a[j]=x
  ·rw[if_pos (by simpa using e)];exact⟨a,rfl,ha,fun y=>⟨.inr,fun h=>h.elim (fun e2=>by rw[e2,<-e];exact ba9 hn) id⟩,by omega⟩
  ·rw[if_neg (by simpa using e),bt hn,bv9];by_cases hg:a[j]>x
   ·rw[if_pos (decide_eq_true hg),if_pos (by simp;omega),show((j:Int)).toNat=j from rfl,if_pos ⟨by omega,by omega⟩,if_pos (by simp;omega)];refine⟨_,rfl,?_,fun y=>?_,by simp;omega⟩
    ·have hgt:∀y,y∈a.drop j->x<y:=fun y hy=>by
      obtain⟨q,hq,e⟩:=bf8 hy;rw[List.getElem_drop] at e;rw[am9] at hq;by_cases h0:q=0
      ·subst h0;have:a[j]=y:=e;omega
      ·have:=au8.1 ha j (j+q) hn (by omega) (by omega);omega
     refine bq9.2 ⟨bq9.2 ⟨ha.sublist (List.take_sublist _ _),by simp,fun b hb c hc=>?_⟩,ha.sublist (List.drop_sublist _ _),fun b hb c hc=>?_⟩
     ·simp only[bj9] at hc;rw[hc];exact h b hb
     ·have:=hgt c hc;rcases bw9.1 hb with hb|hb
      ·have:=h b hb;omega
      ·simp only[bj9] at hb;omega
    ·rw[bw9,bw9,bj9]
     conv=>rhs;rw[<-cf9 j a]
     rw[bw9];constructor
     ·rintro((h|h)|h)
      ·exact .inr (.inl h)
      ·exact .inl h
      ·exact .inr (.inr h)
     ·rintro(h|h|h)
      ·exact .inl (.inr h)
      ·exact .inl (.inl h)
      ·exact .inr h
   ·rw[if_neg (by simpa using hg),bv9,if_pos (by rw[be8,bg9,List.length_singleton];omega),<-List.take_succ_eq_append_getElem hn,show((j:Int)+1)=((j+1:Nat):Int) from rfl];refine tu F a x ha hl m (j+1) (by omega) fun y hy=>?_;rw[List.take_succ_eq_append_getElem hn] at hy;rcases bw9.1 hy with hy|hy
    ·exact h y hy
    ·simp only[bj9] at hy;omega
theorem IL(F:Nat)(a:List Int)(x:Int)(ha:Aw a)(hl:a.length<=10000000):∃out,GO F a x=some out/\Aw out/\(∀y,y∈out<->y=x\/y∈a)/\out.length<=a.length+1:=by
 unfold GO;rw[aA];have:=tu F a x ha hl a.length 0 (by omega) (by simp);rw[bp9,List.take_zero] at this;exact this
def Cc(ls:List Lf)(x:Int):Prop:=∃l,l∈ls/\l.k=5/\l.n=x
theorem om(F:Nat)(ls:List Lf)(k:List Int->Option (List Int)):∀(m j:Nat),j+m=ls.length->∀A:List Int,Aw A->A.length+m<=10000000->
  ∃A',jb F (ls.map Lf.row) k ((ls.drop j).map Lf.row) (j:Int) A=k A'/\Aw A'/\(∀x,x∈A'<->x∈A\/Cc (ls.drop j) x)/\A'.length<=A.length+m
 |0,j,hj,A,hA,hl=>by
  rw[al9 (by omega),ao8,jb];exact⟨A,rfl,hA,fun x=>by simp[Cc],by omega⟩
 |m+1,j,hj,A,hA,hl=>by
  have hn:j<ls.length:=by omega
  rw[bq8 hn,bi9,jb];simp only[oQ hn,Lf.dec,bv9,aA];rw[show ls[j].t.Kind=ls[j].k from rfl,show ls[j].t.N=ls[j].n from rfl];by_cases k5:ls[j].k=5
  ·rw[if_pos (by rw[k5];rfl)];obtain⟨A1,e1,p1,p2,p3⟩:=IL F A ls[j].n hA (by omega);obtain⟨A',g1,g2,g3,g4⟩:=om F ls k m (j+1) (by omega) A1 p1 (by omega);refine⟨A',by rw[e1];exact g1,g2,fun x=>?_,by omega⟩;rw[g3,p2];unfold Cc;simp only[aq8,exists_eq_or_imp];constructor
   ·rintro((h|h)|h)
    ·exact .inr (.inl ⟨k5,h.symm⟩)
    ·exact .inl h
    ·exact .inr (.inr h)
   ·rintro(h|h|h)
    ·exact .inl (.inr h)
    ·exact .inl (.inl h.2.symm)
    ·exact .inr h
  ·rw[if_neg (by simpa using k5)];obtain⟨A',g1,g2,g3,g4⟩:=om F ls k m (j+1) (by omega) A hA (by omega);refine⟨A',g1,g2,fun x=>?_,by omega⟩;rw[g3];unfold Cc;simp only[aq8,exists_eq_or_imp];exact or_congr Iff.rfl ⟨.inr,fun h=>h.elim (fun h=>absurd h.1 k5) id⟩
def zf:Option Int->List Int->List Int
 |_,[]=>[]
 |p,x::r=>(if -1000000000000<=x - 1/\(∀q,p=some q->q<x - 1) then [x - 1] else [])++x::zf (some x) r
theorem A6:∀(l:List Int) (p:Option Int),(zf p l).length<=2*l.length
 |[],p=>by simp[zf]
 |x::r,p=>by
  have:=A6 r (some x);rw[zf,be8,bt8,bt8];split<;>simp<;>omega
theorem zI:∀(l:List Int) (p:Option Int) (x:Int),x∈l->x∈zf p l
 |y::r,p,x,h=>by
  rw[zf];rcases aq8.1 h with e|h
  ·subst e;simp
  ·exact List.mem_append_right _ (bu8 _ (zI r (some y) x h))
theorem ET:∀(l:List Int) (p:Option Int),(∀x,x∈l->ka x)->∀y,y∈zf p l->ka y
 |[],p,h,y,hy=>by simp[zf] at hy
 |x::r,p,h,y,hy=>by
  rw[zf] at hy;have hx:=h x (by simp);unfold ka at hx;rcases bw9.1 hy with hy|hy
  ·split at hy
   ·rename_i hc;simp only[bj9] at hy;rw[hy];exact⟨hc.1,by omega⟩
   ·simp at hy
  ·rcases aq8.1 hy with e|hy
   ·rw[e];exact hx
   ·exact ET r (some x) (fun z hz=>h z (by simp[hz])) y hy
theorem A5:∀(l:List Int) (p:Option Int),Aw l->(∀q,p=some q->∀x,x∈l->q<x)->∀x,x∈l->ka (x - 1)->x - 1∈zf p l\/p=some (x - 1)
 |y::r,p,hs,hp,x,hx,ho=>by
  rw[zf];rcases aq8.1 hx with e|hx
  ·subst e;by_cases hc : -1000000000000<=x - 1/\∀q,p=some q->q<x - 1
   ·rw[if_pos hc];exact .inl (by simp)
   ·right
    cases p with
    |none=>exact absurd ⟨ho.1,fun q hq=>by cases hq⟩ hc
    |some q=>
     have h1:=hp q rfl x (by simp);have h2:¬q<x - 1:=fun h=>hc ⟨ho.1,fun q' hq=>by cases hq;exact h⟩
     congr 1;omega
  ·left
   have hs':=List.pairwise_cons.1 hs;rcases A5 r (some y) hs'.2 (fun q hq=>by cases hq;exact hs'.1) x hx ho with h|h
   ·exact List.mem_append_right _ (bu8 _ h)
   ·have:y=x - 1:=ah8 h;rw[<-this];simp
theorem tA(F:Nat)(l3:List Int)(hok:∀x,x∈l3->ka x)(hl:l3.length<=10000000)(k:List Int->Option (List Int)):∀(m j:Nat),j+m=l3.length->∀A:List Int,A.length+2*m<=100000000->
  gx F l3 k (l3.drop j) (j:Int) A=k (A++zf (if j=0 then none else l3[j - 1]?) (l3.drop j))
 |0,j,hj,A,hA=>by
  rw[al9 (by omega),gx,zf,aa8]
 |m+1,j,hj,A,hA=>by
  have hn:j<l3.length:=by omega
  have hx:=hok l3[j] (ba9 _);unfold ka at hx;have hw:bh (l3[j] - 1)=l3[j] - 1:=cc (by omega) (by omega);have ih:=fun A hA=>tA F l3 hok hl k m (j+1) (by omega) A hA;rw[if_neg (by omega),br8,ax8 hn,show((j+1:Nat):Int)=(j:Int)+1 from rfl] at ih;rw[bq8 hn,gx,aA,hw,zf]
  have fin:∀B:List Int,B.length<=1->(∀C:List Int,C=A++(B++[l3[j]])->gx F l3 k (l3.drop (j+1)) ((j:Int)+1) C=k (A++(B++l3[j]::zf (some l3[j]) (l3.drop (j+1))))):=by
   intro B hB C hC;rw[hC,ih _ (by simp;omega)];simp
  by_cases h1:l3[j] - 1 ≥ -1000000000000
  ·rw[if_pos (decide_eq_true h1)];by_cases h0:j=0
   ·rw[if_pos (by simp[h0]),if_pos (by simp;omega),bt hn,bv9,if_pos (by simp;omega)];rw[if_pos (⟨h1,fun q hq=>by rw[if_pos h0] at hq;cases hq⟩:_/\_)];exact fin [l3[j] - 1] (by simp) _ (by simp)
   ·have hj1:bh ((j:Int) - 1)=((j - 1:Nat):Int):=by rw[cc (by omega) (by omega)];omega
    rw[if_neg (by simp;omega),hj1,bt (show j - 1<l3.length by omega),bv9,aA,bt hn,if_neg h0,ax8 (show j - 1<l3.length by omega)];simp only[bv9];by_cases h2:l3[j - 1]<l3[j] - 1
    ·rw[if_pos (decide_eq_true h2),if_pos (by simp;omega),if_pos (by simp;omega)];rw[if_pos (⟨h1,fun q hq=>by cases hq;exact h2⟩:_/\_)];exact fin [l3[j] - 1] (by simp) _ (by simp)
    ·rw[if_neg (by simpa using h2),if_pos (by simp;omega)];rw[if_neg (fun hc=>h2 (hc.2 _ rfl))];exact fin [] (by simp) _ (by simp)
  ·rw[if_neg (by simpa using h1),bt hn,bv9,if_pos (by simp;omega)];rw[if_neg (fun hc=>h1 hc.1)];exact fin [] (by simp) _ (by simp)
structure LB(ns out:List Int):Prop where
 h0:∃z,z∈out
 h1:∀n,n∈ns->n∈out
 h2:∀n,n∈ns->ka (n - 1)->n - 1∈out
 h3:∀m,m∈ns->(∀n,n∈ns->n<=m)->ka (m+1)->m+1∈out
 ok:∀x,x∈out->ka x
theorem IS(F:Nat)(ls:List Lf)(hlo:∀l,l∈ls->iT l)(hlen:ls.length<=1500000){sm:List Lf}(hsm:Sm ls sm):
  ∃ns out,xb F (ls.map Lf.row)=some out/\(∀x,x∈ns<->Cc ls x)/\LB ns out/\out.length<=30000:=by
 unfold xb;rw[aA];obtain⟨ns,e,h1,h2,h3⟩:=om F ls (fun(l3:List Int)=>if (((l3.length:Nat):Int)==0)=true then some ([0]:List Int)
 else jn (fun(l25:List Int)=>(cq l3 (bh (((l3.length:Nat):Int) - 1))).bind fun x54=>jn (fun(l57:List Int)=>some l57) (fun k56=>if (decide ((bh (x54+1))<=1000000000000))=true then if (l25++([(bh (x54+1))]:List Int)).length*8<=140737488355328 then k56 (l25++([(bh (x54+1))]:List Int)) else none
 else k56 l25)) (fun k24=>gx F l3 k24 l3 0 ([]:List Int))) ls.length 0 (by omega) [] (by simp) (by simp;omega)
 simp only[bn9,ca8,bp9,List.not_mem_nil,false_or] at h2 h3;rw[bp9,show((0:Nat):Int)=0 from rfl] at e
 have hok:∀x,x∈ns->ka x:=fun x hx=>by
  obtain⟨l,hl,h5,e⟩:=(h2 x).1 hx;exact e ▸ (hlo l hl).n h5
 have hn6:ns.length<=12000:=by
  have q:=fX (m:=sm.map Lf.n) (h1.imp fun h=>Int.ne_of_lt h) fun x hx=>by
   obtain⟨l,hl,_,e⟩:=(h2 x).1 hx;exact bb8.2 ⟨l,hsm.sub l hl,e⟩
  rw[bf9] at q;exact bs8 q hsm.ln
 refine⟨ns,?_⟩;rw[e];by_cases h0:ns=[]
 ·subst h0;exact⟨[0],rfl,h2,⟨⟨0,by simp⟩,by simp,by simp,by simp,fun x hx=>by simp only[bj9] at hx;subst hx;exact⟨by omega,by omega⟩⟩,by simp⟩
 ·have hpos:0<ns.length:=List.length_pos_iff.2 h0;rw[if_neg (by simp;exact h0),aA];have hL2:=tA F ns hok (by omega) (fun(l25:List Int)=>(cq ns (bh (((ns.length:Nat):Int) - 1))).bind fun x54=>jn (fun(l57:List Int)=>some l57) (fun k56=>if (decide ((bh (x54+1))<=1000000000000))=true then if (l25++([(bh (x54+1))]:List Int)).length*8<=140737488355328 then k56 (l25++([(bh (x54+1))]:List Int)) else none
 else k56 l25)) ns.length 0 (by omega) [] (by simp;omega)
  rw[bp9,if_pos rfl,ad8,show((0:Nat):Int)=0 from rfl] at hL2;rw[hL2];have hw:bh (((ns.length:Nat):Int) - 1)=((ns.length - 1:Nat):Int):=by rw[cc (by omega) (by omega)];omega
  have hll:ns.length - 1<ns.length:=by omega
  rw[hw,bt hll,bv9,aA];have hlast:=hok _ (ba9 hll);have hlast':=hlast;unfold ka at hlast';have hw2:bh (ns[ns.length - 1]+1)=ns[ns.length - 1]+1:=cc (by omega) (by omega);rw[hw2];have hnl:=A6 ns none
  have key:∀ex:List Int,(∀x,x∈ex->ka x)->(ka (ns[ns.length - 1]+1)->ns[ns.length - 1]+1∈ex)->LB ns (zf none ns++ex):=by
   intro ex h1' h2';refine⟨⟨ns[ns.length - 1],cf8 _ (zI _ _ _ (ba9 _))⟩,fun n hn=>cf8 _ (zI _ _ _ hn),fun n hn ho=>?_,fun m hm hmax ho=>?_,fun x hx=>?_⟩
   ·rcases A5 ns none h1 (fun q hq=>by cases hq) n hn ho with h|h
    ·exact cf8 _ h
    ·cases h
   ·have hme:m=ns[ns.length - 1]:=by
     obtain⟨i,hi,e⟩:=bf8 hm;have h5:=hmax _ (ba9 hll);rcases bn8 i (ns.length - 1) with h6|h6
     ·have:=au8.1 h1 i (ns.length - 1) hi hll h6;omega
     ·have:i=ns.length - 1:=by omega
      subst this;exact e.symm
    rw[hme] at ho ⊢;exact List.mem_append_right _ (h2' ho)
   ·rcases bw9.1 hx with hx|hx
    ·exact ET ns none hok x hx
    ·exact h1' x hx
  by_cases hc:ns[ns.length - 1]+1<=1000000000000
  ·rw[if_pos (decide_eq_true hc),if_pos (by simp;omega)];exact⟨_,rfl,h2,key [ns[ns.length - 1]+1] (fun x hx=>by simp only[bj9] at hx;subst hx;exact⟨by omega,hc⟩) (fun _=>by simp),by simp;omega⟩
  ·rw[if_neg (by simpa using hc)];have:=key [] (by simp) fun ho=>absurd ho.2 hc;rw[aa8] at this;exact⟨_,rfl,h2,this,by omega⟩
def fz:Fd:=⟨false,false,[],0⟩
def ft(t:bb):Fd:=⟨true,false,t,0⟩
def fn(n:Int):Fd:=⟨false,true,[],n⟩
def fb(t:bb)(n:Int):Fd:=⟨true,true,t,n⟩
section
variable(F:Nat)(k:List Fd->Option (List Fd))
theorem dR:∀(l:List bb) (acc:List Fd),acc.length+l.length<=100000000000->dh F k l acc=k (acc++l.map ft)
 |[],acc,_=>by rw[dh];simp
 |x::l,acc,h=>by
  simp only[bt8] at h;rw[dh,if_pos (by simp;omega),dR l _ (by simp;omega)];simp[ft]
theorem dQ:∀(l:List Int) (acc:List Fd),acc.length+l.length<=100000000000->dg F k l acc=k (acc++l.map fn)
 |[],acc,_=>by rw[dg];simp
 |x::l,acc,h=>by
  simp only[bt8] at h;rw[dg,if_pos (by simp;omega),dQ l _ (by simp;omega)];simp[fn]
theorem tG(ts:List bb)(ns:List Int)(i:Nat)(hi:i<ts.length):∀(m j:Nat),j+m=ns.length->∀acc:List Fd,acc.length+m<=1000000000000->jd F ts ns (i:Int) k m (j:Int) acc=k (acc++(ns.drop j).map (fb ts[i]))
 |0,j,hj,acc,_=>by rw[jd,al9 (by omega)];simp
 |m+1,j,hj,acc,h=>by
  have hn:j<ns.length:=by omega
  rw[jd,bt hi,bv9,bt hn,bv9,if_pos (by simp;omega),show((j:Int)+1)=((j+1:Nat):Int) from rfl,tG ts ns i hi m (j+1) (by omega) _ (by simp;omega),bq8 hn,bi9,bx8,List.singleton_append];rfl
theorem ou(ts:List bb)(ns:List Int):∀(m i:Nat),i+m=ts.length->∀acc:List Fd,acc.length+m*ns.length<=1000000000000->il F ts ns k m (i:Int) acc=k (acc++(ts.drop i).flatMap fun t=>ns.map (fb t))
 |0,i,hi,acc,_=>by rw[il,al9 (by omega)];simp
 |m+1,i,hi,acc,h=>by
  have hn:i<ts.length:=by omega
  have h4:=tG F (fun l42=>(fun l40=>il F ts ns k m ((i:Int)+1) l40) l42) ts ns i hn ns.length 0 (by omega) acc (by rw[al8] at h;omega);rw[show((0:Nat):Int)=0 from rfl,bp9] at h4;rw[il,aA,aA,show(((ns.length:Nat):Int)).toNat=ns.length by omega];refine h4.trans ?_;dsimp only;rw[show((i:Int)+1)=((i+1:Nat):Int) from rfl,ou ts ns m (i+1) (by omega) _ (by rw[be8,bf9];rw[al8] at h;omega),bq8 hn,ac9,bx8]
end
def lm(a b c:Bool)(ts:List bb)(ns:List Int):List Fd:=
 fz::((if (a||c)=true then ts.map ft else [])++((if (b||c)=true then ns.map fn else [])++(if (a&&b)=true then ts.flatMap fun t=>ns.map (fb t) else [])))
theorem Je(F:Nat)(ls:List Lf)(ts:List bb)(ns:List Int)(h1:AD F (ls.map Lf.row)=some ts)(h2:xb F (ls.map Lf.row)=some ns)(hl1:ts.length<=1300000)(hl2:ns.length<=30000):
  zc F (ls.map Lf.row)=some (lm (uT ls) (uN ls) (uH ls) ts ns):=by
 unfold zc;have hm:ts.length*ns.length<=1300000*30000:=Nat.mul_le_mul hl1 hl2;rw[Gs,bv9,h1,h2];simp only[bv9,aA];unfold lm;cases uT ls<;>cases uN ls<;>cases uH ls<;>simp only[ch8,if_false,if_true,Bool.or_false,Bool.or_true,Bool.and_false,Bool.and_true,ce8,Bool.true_or,cc8,Bool.or_self,Bool.and_self,ah9]
 ·rw[dR F _ [] _ (by simp<;>omega)];rw[dQ F _ [] _ (by simp<;>omega)];simp[fz]
 ·rw[dR F _ ts _ (by simp<;>omega)];rw[dQ F _ ns _ (by simp<;>omega)];simp[fz]
 ·rw[dR F _ [] _ (by simp<;>omega)];rw[dQ F _ ns _ (by simp<;>omega)];simp[fz]
 ·rw[dR F _ ts _ (by simp<;>omega)];rw[dQ F _ ns _ (by simp<;>omega)];simp[fz]
 ·rw[dR F _ ts _ (by simp<;>omega)];rw[dQ F _ [] _ (by simp<;>omega)];simp[fz]
 ·rw[dR F _ ts _ (by simp<;>omega)];rw[dQ F _ ns _ (by simp<;>omega)];simp[fz]
 ·rw[dR F _ ts _ (by simp<;>omega)];rw[dQ F _ ns _ (by simp<;>omega)];rw[show(((ts.length:Nat):Int)).toNat=ts.length by omega];have:=ou F (fun l33=>some l33) ts ns ts.length 0 (by omega) ([(⟨false,false,[],0⟩:Fd)]++ts.map ft++ns.map fn) (by simp;omega);rw[show((0:Nat):Int)=0 from rfl,bp9] at this;refine this.trans ?_;simp[fz]
 ·rw[dR F _ ts _ (by simp<;>omega)];rw[dQ F _ ns _ (by simp<;>omega)];rw[show(((ts.length:Nat):Int)).toNat=ts.length by omega];have:=ou F (fun l33=>some l33) ts ns ts.length 0 (by omega) ([(⟨false,false,[],0⟩:Fd)]++ts.map ft++ns.map fn) (by simp;omega);rw[show((0:Nat):Int)=0 from rfl,bp9] at this;refine this.trans ?_;simp[fz]
def rsb(ls:List Lf)(is bg:List bb)(ns:List Int):ae:=⟨is,bg,ns,uT ls,uN ls,uH ls,0⟩
theorem KE{ls:List Lf}{is bg:List bb}{ns:List Int}(hi:∀x,x∈is<->Fk ls x)(hb:∀x,x∈bg<->F8 ls x)(hn:∀x,x∈ns<->Cc ls x){l:Lf}(hl:l∈ls)(ho:iT l):Cj (rsb ls is bg ns) l:=by
 have hk:=ho.k;have hT:l.k=2\/l.k=3->uT ls=true:=fun h=>cc9.2 ⟨l,hl,by rcases h with h|h<;>simp[h]⟩;by_cases k2:l.k=2
 ·exact .inl ⟨k2,fun e he=>(hi e).2 ⟨l,hl,k2,he⟩,hT (.inl k2)⟩
 by_cases k3:l.k=3
 ·exact .inr (.inl ⟨k3,fun e he=>(hb e).2 ⟨l,hl,k2,he⟩,hT (.inr k3)⟩)
 by_cases k4:l.k=4
 ·exact .inr (.inr (.inl ⟨k4,cc9.2 ⟨l,hl,by simp[k4]⟩⟩))
 ·have k5:l.k=5:=by omega
  exact .inr (.inr (.inr ⟨k5,(hn _).2 ⟨l,hl,k5,Y⟩,cc9.2 ⟨l,hl,by simp[k5]⟩⟩))
theorem H1{ls:List Lf}{is bg ts:List bb}{nn ns:List Int}(ht:Gp is bg ts)(hn:LB nn ns)(hnn:∀n,n∈nn->ka n)(v:Fd)(hv:A0 v):
  ∃c,c∈lm (uT ls) (uN ls) (uH ls) ts ns/\va (rsb ls is bg nn) c v:=by
 have hT:v.isText=true->∃t,t∈ts/\yR is bg t v.text:=fun h=>xK ht.hi ht.hb v.text (hv.1 h);have hN:v.isNumber=true->∃y,y∈ns/\th nn y v.number:=fun h=>AV hn.h0 hn.h1 hn.h2 hn.h3 hnn v.number (hv.2 h)
 have mk:∀(a b c:Bool),∃x,x∈lm a b c ts ns/\(a=true->x.isText=v.isText/\(x.isText=true->yR is bg x.text v.text))/\(b=true->x.isNumber=v.isNumber/\(x.isNumber=true->th nn x.number v.number))/\(c=true->(x.isText||x.isNumber)=(v.isText||v.isNumber)):=by
  intro a b c;cases hvt:v.isText with
  |true=>
   obtain⟨t,t1,t2⟩:=hT hvt
   have hft:(a||c)=true->ft t∈lm a b c ts ns:=fun h=>by
    unfold lm;rw[if_pos h];exact bu8 _ (cf8 _ (bk8 t1))
   cases hvn:v.isNumber with
   |true=>
    obtain⟨y,y1,y2⟩:=hN hvn
    have hfn:(b||c)=true->fn y∈lm a b c ts ns:=fun h=>by
     unfold lm;rw[if_pos h];exact bu8 _ (List.mem_append_right _ (cf8 _ (bk8 y1)))
    cases a with
    |true=>
     cases b with
     |true=>
      refine⟨fb t y,?_,fun _=>⟨Y,fun _=>t2⟩,fun _=>⟨Y,fun _=>y2⟩,fun _=>Y⟩;unfold lm;rw[if_pos (show(true&&true)=true from rfl)];exact bu8 _ (List.mem_append_right _ (List.mem_append_right _ (ad9.2 ⟨t,t1,bk8 y1⟩)))
     |false=>exact⟨ft t,hft rfl,fun _=>⟨rfl,fun _=>t2⟩,fun h=>(by cases h),fun _=>rfl⟩
    |false=>
     cases b with
     |true=>exact⟨fn y,hfn rfl,fun h=>(by cases h),fun _=>⟨rfl,fun _=>y2⟩,fun _=>rfl⟩
     |false=>
      cases c with
      |true=>exact⟨ft t,hft rfl,fun h=>(by cases h),fun h=>(by cases h),fun _=>rfl⟩
      |false=>exact⟨fz,by unfold lm;simp,fun h=>(by cases h),fun h=>(by cases h),fun h=>(by cases h)⟩
   |false=>
    cases hac:a||c with
    |true=>exact⟨ft t,hft hac,fun _=>⟨rfl,fun _=>t2⟩,fun _=>⟨rfl,fun h=>(by cases h)⟩,fun _=>rfl⟩
    |false=>
     rw[Bool.or_eq_false_iff] at hac;exact⟨fz,by unfold lm;simp,fun h=>(by rw[hac.1] at h;cases h),fun _=>⟨Y,fun h=>(by cases h)⟩,fun h=>(by rw[hac.2] at h;cases h)⟩
  |false=>
   cases hvn:v.isNumber with
   |true=>
    obtain⟨y,y1,y2⟩:=hN hvn
    have hfn:(b||c)=true->fn y∈lm a b c ts ns:=fun h=>by
     unfold lm;rw[if_pos h];exact bu8 _ (List.mem_append_right _ (cf8 _ (bk8 y1)))
    cases hbc:b||c with
    |true=>exact⟨fn y,hfn hbc,fun _=>⟨rfl,fun h=>(by cases h)⟩,fun _=>⟨rfl,fun _=>y2⟩,fun _=>rfl⟩
    |false=>
     rw[Bool.or_eq_false_iff] at hbc;exact⟨fz,by unfold lm;simp,fun _=>⟨Y,fun h=>(by cases h)⟩,fun h=>(by rw[hbc.1] at h;cases h),fun h=>(by rw[hbc.2] at h;cases h)⟩
   |false=>exact⟨fz,by unfold lm;simp,fun _=>⟨rfl,fun h=>(by cases h)⟩,fun _=>⟨rfl,fun h=>(by cases h)⟩,fun _=>rfl⟩
 obtain⟨x,h1,h2,h3,h4⟩:=mk (uT ls) (uN ls) (uH ls);exact⟨x,h1,h2,h3,h4⟩
theorem K5{a b c:Bool}{ts:List bb}{ns:List Int}(ht:∀x,x∈ts->sf x)(hn:∀x,x∈ns->ka x){x:Fd}(hx:x∈lm a b c ts ns):A0 x:=by
 unfold lm at hx;rcases aq8.1 hx with e|hx
 ·rw[e];exact⟨fun h=>(by cases h),fun h=>(by cases h)⟩
 rcases bw9.1 hx with hx|hx
 ·split at hx
  ·obtain⟨t,h,rfl⟩:=bb8.1 hx;exact⟨fun _=>ht t h,fun h=>(by cases h)⟩
  ·simp at hx
 rcases bw9.1 hx with hx|hx
 ·split at hx
  ·obtain⟨n,h,rfl⟩:=bb8.1 hx;exact⟨fun h=>(by cases h),fun _=>hn n h⟩
  ·simp at hx
 ·split at hx
  ·obtain⟨t,h,hx⟩:=ad9.1 hx;obtain⟨n,h2,rfl⟩:=bb8.1 hx;exact⟨fun _=>ht t h,fun _=>hn n h2⟩
  ·simp at hx
structure Fds(ls:List Lf)(cs:List Fd):Prop where
 rep:∀v,A0 v->∃c,c∈cs/\∀l,l∈ls->l.one c=l.one v
 ok:∀c,c∈cs->A0 c
 ln:cs.length<=100000000000
theorem Jd(F:Nat)(ls:List Lf)(hF:200000000<=F)(hlo:∀l,l∈ls->iT l)(hlen:ls.length<=1500000){sm:List Lf}(hsm:Sm ls sm):∃cs,zc F (ls.map Lf.row)=some cs/\Fds ls cs:=by
 obtain⟨is,bg,ts,e1,a1,a2,a3,a4⟩:=IT F ls hF hlo hlen hsm;obtain⟨nn,ns,e2,b1,b2,b3⟩:=IS F ls hlo hlen hsm;refine⟨_,Je F ls ts ns e1 e2 a4 b3,⟨fun v hv=>?_,fun c hc=>?_,?_⟩⟩
 ·obtain⟨c,h1,h2⟩:=H1 (ls:=ls) a3 b2 (fun n hn=>by
   obtain⟨l,hl,h5,e⟩:=(b1 n).1 hn;exact e ▸ (hlo l hl).n h5) v hv
  exact⟨c,h1,fun l hl=>xO (KE a1 a2 b1 hl (hlo l hl)) h2⟩
 ·refine K5 (fun x hx=>(a3.ok x hx).elim (fun h=>?_) id) b2.ok hc;obtain⟨l,hl,_,hx⟩:=(a1 x).1 h;exact(hlo l hl).tx x hx
 ·have hm:ts.length*ns.length<=1300000*30000:=Nat.mul_le_mul a4 b3;have hfm:(ts.flatMap fun t=>ns.map (fb t)).length<=ts.length*ns.length:=lR _ _ _ fun x _=>by rw[bf9];exact ae8 _
  unfold lm;rw[bt8,be8,be8];have q1:(if (uT ls||uH ls)=true then ts.map ft else []).length<=1300000:=by split<;>simp<;>omega
  have q2:(if (uN ls||uH ls)=true then ns.map fn else []).length<=30000:=by split<;>simp<;>omega
  have q3:(if (uT ls&&uN ls)=true then ts.flatMap fun t=>ns.map (fb t) else []).length<=1300000*30000:=by
   split
   ·omega
   ·simp
  omega
end Go.Proofs.YtelmfadihfcgnaaGreatDoor
