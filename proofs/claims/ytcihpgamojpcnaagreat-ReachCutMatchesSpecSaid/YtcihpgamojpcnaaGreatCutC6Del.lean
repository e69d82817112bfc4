/- Part of the proof: NK, NL, NM, NN, NO, NR, C6Del. -/
import Derived.Test.YtcihpgamojpcnaaGreatCutNJ
import Derived.Test.YtcihpgamojpcnaaGreatCutEI
import Derived.Test.YtcihpgamojpcnaaGreatProg
import Derived.WalkKit
import Derived.Deep.LoopGhost
import Derived.Deep.RegionLaw
import Derived.Shelf.RegionOpenPlain
import Derived.Lib.Walk
import Derived.Sort.WalkB12
set_option linter.unusedSimpArgs false
set_option linter.unusedVariables false
namespace Go.Proofs.YtcihpgamojpcnaaGreat
open Go Go.Pv
abbrev Rn:=q0a
abbrev Um:=List (Rn×List (Rn×Int))
def enc:Nd->Rn
 | .F x=>q0a.mk x (-1) false
 | .A s=>q0a.mk s.Func s.Call false
 | .B s=>q0a.mk s.Func s.Call true
def dec(r:Rn):Nd:=if r.call<0 then .F r.name else if r.end_=true then .B (q1b.mk r.name r.call) else .A (q1b.mk r.name r.call)
theorem j5f{Ls:List q1b}{Fs:List Tx}(hc:∀s,s∈Ls->0<=s.Call){n:Nd}(h:Vd Ls Fs n):dec (enc n)=n:=by
 cases n with
 |F x=>rfl
 |A s=>have:=hc s h;unfold dec enc;simp only;rw[if_neg (by omega),if_neg (by simp)]
 |B s=>have:=hc s h;unfold dec enc;simp only;rw[if_neg (by omega),if_pos trivial]
theorem z4m{Ls:List q1b}{Fs:List Tx}(hc:∀s,s∈Ls->0<=s.Call){n m:Nd}(h:Vd Ls Fs n)(h':Vd Ls Fs m):enc n=enc m<->n=m:=by
 constructor
 ·intro e;rw[<-j5f hc h,<-j5f hc h',e]
 ·rintro rfl;rfl
def un(U:Um)(p x:Rn):Int:=(q3b ((q3b U p).getD []) x).getD 0
theorem j9v(U:Um)(p x:Rn)(v:Int)(a b:Rn):un (q0d U p (q0d ((q3b U p).getD []) x v)) a b=if a=p/\b=x then v else un U a b:=by
 unfold un;rw[q8g];by_cases e:p=a
 ·subst e;rw[if_pos rfl,ck9,q8g];by_cases e:x=b
  ·subst e;simp
  ·rw[if_neg e,if_neg (fun q=>e q.2.symm)]
 ·rw[if_neg e,if_neg (fun q=>e q.1.symm)]
theorem z0b(U:Um)(p a b:Rn):un (q0d U p ((q3b U p).getD [])) a b=un U a b:=by
 unfold un;rw[q8g];by_cases e:p=a
 ·subst e;simp
 ·rw[if_neg e]
theorem v2n{U:Um}{p:Rn}(h:(q3b U p).isSome=false)(a b:Rn):un (q0d U p []) a b=un U a b:=by
 have:(q3b U p).getD []=[]:=by
  cases h':q3b U p with
  |none=>rfl
  |some v=>rw[h'] at h;simp at h
 rw[<-this];exact z0b U p a b
def sdU(p x:Rn)(U:Um)(used:List (q1b×Bool)):Option ((List (q1b×Bool))×Um):=
 if ((q3b U x).isSome)=true then if (decide (((q3b ((q3b U x).getD []) p).getD 0)>0))=true then if ((q3b (q0d U x ((q3b U x).getD [])) x).isSome)=true then some (used,(q0d (q0d U x ((q3b U x).getD [])) x (q0d ((q3b (q0d U x ((q3b U x).getD [])) x).getD []) p (w64 (((q3b ((q3b (q0d U x ((q3b U x).getD [])) x).getD []) p).getD 0) - 1)))))
 else none
 else if ((q3b (q0d U x ((q3b U x).getD [])) p).isSome)=true then if ((q3b (q0d (q0d U x ((q3b U x).getD [])) p ((q3b (q0d U x ((q3b U x).getD [])) p).getD [])) p).isSome)=true then some (used,(q0d (q0d (q0d U x ((q3b U x).getD [])) p ((q3b (q0d U x ((q3b U x).getD [])) p).getD [])) p (q0d ((q3b (q0d (q0d U x ((q3b U x).getD [])) p ((q3b (q0d U x ((q3b U x).getD [])) p).getD [])) p).getD []) x (w64 (((q3b ((q3b (q0d (q0d U x ((q3b U x).getD [])) p ((q3b (q0d U x ((q3b U x).getD [])) p).getD [])) p).getD []) x).getD 0)+1)))))
 else none
 else if ((q3b (q0d (q0d U x ((q3b U x).getD [])) p ([]:List (Rn×Int))) p).isSome)=true then some (used,(q0d (q0d (q0d U x ((q3b U x).getD [])) p ([]:List (Rn×Int))) p (q0d ((q3b (q0d (q0d U x ((q3b U x).getD [])) p ([]:List (Rn×Int))) p).getD []) x (w64 (((q3b ((q3b (q0d (q0d U x ((q3b U x).getD [])) p ([]:List (Rn×Int))) p).getD []) x).getD 0)+1)))))
 else none
 else if (decide ((0:Int)>0))=true then none
 else if ((q3b U p).isSome)=true then if ((q3b (q0d U p ((q3b U p).getD [])) p).isSome)=true then some (used,(q0d (q0d U p ((q3b U p).getD [])) p (q0d ((q3b (q0d U p ((q3b U p).getD [])) p).getD []) x (w64 (((q3b ((q3b (q0d U p ((q3b U p).getD [])) p).getD []) x).getD 0)+1)))))
 else none
 else if ((q3b (q0d U p ([]:List (Rn×Int))) p).isSome)=true then some (used,(q0d (q0d U p ([]:List (Rn×Int))) p (q0d ((q3b (q0d U p ([]:List (Rn×Int))) p).getD []) x (w64 (((q3b ((q3b (q0d U p ([]:List (Rn×Int))) p).getD []) x).getD 0)+1)))))
 else none
theorem y1d(F:Nat)(p x:Rn)(a3:List q7d)(a4:List q6g)(a5:List q8e)(a6:List Tx)(a7:List (Tx×List q1a))(a8:List (Tx×q8e))(a9:List (Tx×List q1b))(used:List (q1b×Bool))(U:Um):
  M41 F p x a3 a4 a5 a6 a7 a8 a9 used U=if p.call>=0/\x.call=p.call/\p.name=x.name/\p.end_≠x.end_ then some (q0d used (q1b.mk p.name p.call) x.end_,U) else sdU p x U used:=by
 by_cases hc:p.call>=0/\x.call=p.call/\p.name=x.name/\p.end_≠x.end_
 ·rw[if_pos hc];unfold M41;rw[if_pos (by simpa using hc.1),if_pos (by simpa using hc.2.1),if_pos (by simpa using hc.2.2.1),if_pos (by simpa using hc.2.2.2)]
 ·rw[if_neg hc];unfold M41;by_cases h1:p.call>=0
  ·rw[if_pos (show decide (p.call>=0)=true by simpa using h1)];by_cases h2:x.call=p.call
   ·rw[if_pos (show(x.call==p.call)=true by simpa using h2)];by_cases h3:p.name=x.name
    ·rw[if_pos (show(p.name==x.name)=true by simpa using h3)];by_cases h4:p.end_=x.end_
     ·rw[if_neg (show ¬(p.end_ != x.end_)=true by simpa using h4)];rfl
     ·exact absurd ⟨h1,h2,h3,h4⟩ hc
    ·rw[if_neg (show ¬(p.name==x.name)=true by simpa using h3)];rfl
   ·rw[if_neg (show ¬(x.call==p.call)=true by simpa using h2)];rfl
  ·rw[if_neg (show ¬decide (p.call>=0)=true by simpa using h1)];rfl
theorem y3m(p x:Rn)(U:Um)(used:List (q1b×Bool))(hb:∀a b,0<=un U a b/\un U a b<=1000000000000000):
  ∃U',sdU p x U used=some (used,U')/\∀a b,un U' a b=if 0<un U x p then (if a=x/\b=p then un U x p - 1 else un U a b) else (if a=p/\b=x then un U p x+1 else un U a b):=by
 have w1:∀v:Int,0<=v/\v<=1000000000000000->w64 (v - 1)=v - 1:=fun v h=>q9r (by omega) (by omega);have w2:∀v:Int,0<=v/\v<=1000000000000000->w64 (v+1)=v+1:=fun v h=>q9r (by omega) (by omega);have wp:∀V:Um,(∀a b,un V a b=un U a b)->w64 (un V p x+1)=un U p x+1:=fun V h=>by rw[h,w2 _ (hb p x)]
 have wx:∀V:Um,(∀a b,un V a b=un U a b)->w64 (un V x p - 1)=un U x p - 1:=fun V h=>by rw[h,w1 _ (hb x p)]
 unfold sdU;cases hx:(q3b U x).isSome
 ·rw[if_neg (by simp),if_neg (by simp)]
  have z:un U x p=0:=by
   unfold un;cases h':q3b U x with
   |none=>rfl
   |some v=>rw[h'] at hx;simp at hx
  cases hp:(q3b U p).isSome
  ·rw[if_neg (by simp),if_pos (by rw[q8g];simp)];refine⟨_,rfl,fun a b=>?_⟩;rw[j9v];refine Eq.trans (congrArg (fun v=>if a=p/\b=x then v else un (q0d U p []) a b) (wp _ (v2n hp))) ?_;simp only[v2n hp,z,Int.lt_irrefl,if_false]
  ·rw[if_pos rfl,if_pos (by rw[q8g];simp)];refine⟨_,rfl,fun a b=>?_⟩;rw[j9v];refine Eq.trans (congrArg (fun v=>if a=p/\b=x then v else un (q0d U p ((q3b U p).getD [])) a b) (wp _ (z0b U p))) ?_;simp only[z0b,z,Int.lt_irrefl,if_false]
 ·rw[if_pos rfl];by_cases h:0<un U x p
  ·have hd:decide (((q3b ((q3b U x).getD []) p).getD 0)>0)=true:=by simpa[un] using h
   rw[if_pos hd,if_pos (by rw[q8g];simp)];refine⟨_,rfl,fun a b=>?_⟩;rw[j9v];refine Eq.trans (congrArg (fun v=>if a=x/\b=p then v else un (q0d U x ((q3b U x).getD [])) a b) (wx _ (z0b U x))) ?_;simp only[z0b,h,if_true]
  ·have hd:¬decide (((q3b ((q3b U x).getD []) p).getD 0)>0)=true:=by simpa[un] using h
   rw[if_neg hd];cases hp:(q3b (q0d U x ((q3b U x).getD [])) p).isSome
   ·rw[if_neg (by simp),if_pos (by rw[q8g];simp)];refine⟨_,rfl,fun a b=>?_⟩;rw[j9v];refine Eq.trans (congrArg (fun v=>if a=p/\b=x then v else un (q0d (q0d U x ((q3b U x).getD [])) p []) a b) (wp _ (fun a b=>(v2n hp a b).trans (z0b U x a b)))) ?_;simp only[v2n hp,z0b,h,if_false]
   ·rw[if_pos rfl,if_pos (by rw[q8g];simp)];refine⟨_,rfl,fun a b=>?_⟩;rw[j9v];refine Eq.trans (congrArg (fun v=>if a=p/\b=x then v else un (q0d (q0d U x ((q3b U x).getD [])) p ((q3b (q0d U x ((q3b U x).getD [])) p).getD [])) a b) (wp _ (fun a b=>(z0b _ p a b).trans (z0b U x a b)))) ?_;simp only[z0b,h,if_false]
def Wt(st:UvS):Nd->Nd->Int
 | .F f,.A s=>if s.Func=f then st.i s else 0
 | .B s,.F y=>st.v s y
 |_,_=>0
structure Rl(Ls:List q1b)(Fs:List Tx)(K:Nat)(st:UvS)(used:List (q1b×Bool))(U:Um):Prop where
 us:∀s,s∈Ls->(q3b used s).getD false=decide (st.u s=1)
 bd:∀a b,0<=un U a b/\un U a b<=K
 wt:∀a b,Vd Ls Fs a->Vd Ls Fs b->un U (enc a) (enc b)=Wt st a b
theorem y8p{Ls:List q1b}{tos:q1b->Tx->Prop}{st:UvS}{p x:Nd}(h:Av Ls tos st p x)(hn:∀s,¬(p=.A s/\x=.B s)/\¬(p=.B s/\x=.A s))(a b:Nd):
  Wt (z6e st p x) a b=if 0<Wt st x p then (if a=x/\b=p then Wt st x p - 1 else Wt st a b) else (if a=p/\b=x then Wt st p x+1 else Wt st a b):=by
 cases p<;>cases x<;>simp only[Av] at h
 ·rename_i f s;have e:Wt st (.A s) (.F f)=0:=rfl;rw[e,if_neg (by omega)];cases a<;>cases b<;>simp only[Wt,z6e,Nd.F.injEq,Nd.A.injEq,reduceCtorEq,and_false,false_and,if_false];rename_i f' s';rw[if_pos h.2];by_cases e:s'=s
  ·subst e;rw[h.2,if_pos rfl];by_cases e2:f'=f
   ·subst e2;simp
   ·rw[if_neg (fun q=>e2 q.symm),if_neg (fun q=>e2 q.1),if_neg (fun q=>e2 q.symm)]
  ·rw[if_neg e,if_neg (show ¬(f'=f/\s'=s) from fun q=>e q.2)]
 ·rename_i y s;have e:Wt st (.B s) (.F y)=st.v s y:=rfl;rw[e,if_pos h.2.2];cases a<;>cases b<;>simp only[Wt,z6e,Nd.F.injEq,Nd.B.injEq,reduceCtorEq,and_false,false_and,if_false]
 ·rename_i s f;have e:Wt st (.F f) (.A s)=st.i s:=by simp only[Wt];rw[if_pos h.2.1]
  rw[e,if_pos h.2.2];cases a<;>cases b<;>simp only[Wt,z6e,Nd.F.injEq,Nd.A.injEq,reduceCtorEq,and_false,false_and,if_false];rename_i f' s';by_cases e:s'=s
  ·subst e;rw[h.2.1,if_pos rfl];by_cases e2:f'=f
   ·subst e2;simp
   ·rw[if_neg (fun q=>e2 q.symm),if_neg (fun q=>e2 q.1),if_neg (fun q=>e2 q.symm)]
  ·rw[if_neg e,if_neg (show ¬(f'=f/\s'=s) from fun q=>e q.2)]
 ·rename_i s s';obtain⟨rfl,_⟩:=h;exact absurd ⟨rfl,rfl⟩ (hn s').1
 ·rename_i s y;have e:Wt st (.F y) (.B s)=0:=rfl;rw[e,if_neg (by omega)];cases a<;>cases b<;>simp only[Wt,z6e,Nd.F.injEq,Nd.B.injEq,reduceCtorEq,and_false,false_and,if_false]
 ·rename_i s s';obtain⟨rfl,_⟩:=h;exact absurd ⟨rfl,rfl⟩ (hn s').2
theorem Rl.step{Ls:List q1b}{Fs:List Tx}{tos:q1b->Tx->Prop}{K:Nat}{st:UvS}{used:List (q1b×Bool)}{U:Um}(R:Rl Ls Fs K st used U)(hK:K<=1000000000000000)(hc:∀s,s∈Ls->0<=s.Call){p x:Nd}(hp:Vd Ls Fs p)(hx:Vd Ls Fs x)(h:Av Ls tos st p x)
  (F:Nat) (a3:List q7d) (a4:List q6g) (a5:List q8e) (a6:List Tx) (a7:List (Tx×List q1a)) (a8:List (Tx×q8e)) (a9:List (Tx×List q1b)):
  ∃used' U',M41 F (enc p) (enc x) a3 a4 a5 a6 a7 a8 a9 used U=some (used',U')/\Rl Ls Fs (K+1) (z6e st p x) used' U':=by
 rw[y1d];by_cases hn:∀s,¬(p=.A s/\x=.B s)/\¬(p=.B s/\x=.A s)
 ·have hcond:¬((enc p).call>=0/\(enc x).call=(enc p).call/\(enc p).name=(enc x).name/\(enc p).end_≠(enc x).end_):=by
   rintro⟨h1,h2,h3,h4⟩
   cases p<;>cases x<;>simp only[Av] at h<;>simp only[enc] at h1 h2 h3 h4
   ·omega
   ·omega
   ·omega
   ·rename_i s s';obtain⟨rfl,_⟩:=h;exact(hn s').1 ⟨rfl,rfl⟩
   ·have:=hc _ h.1;omega
   ·rename_i s s';obtain⟨rfl,_⟩:=h;exact(hn s').2 ⟨rfl,rfl⟩
  rw[if_neg hcond];obtain⟨U',e,hU⟩:=y3m (enc p) (enc x) U used (fun a b=>by have:=R.bd a b;omega);refine⟨used,U',e,⟨fun s hs=>?_,fun a b=>?_,fun a b ha hb=>?_⟩⟩
  ·rw[R.us s hs];rw[v5x h (hn s).1 (hn s).2]
  ·rw[hU];have:=R.bd a b;have:=R.bd (enc x) (enc p);have:=R.bd (enc p) (enc x);split<;>split<;>omega
  ·rw[hU,y8p h hn,R.wt x p hx hp,R.wt a b ha hb,R.wt p x hp hx];simp only[z4m hc ha hx,z4m hc hb hp,z4m hc ha hp,z4m hc hb hx]
 ·have hex:∃s,(p=.A s/\x=.B s)\/(p=.B s/\x=.A s):=Classical.byContradiction fun q=>hn fun s=>⟨fun q1=>q ⟨s,.inl q1⟩,fun q1=>q ⟨s,.inr q1⟩⟩;obtain⟨s,⟨rfl,rfl⟩|⟨rfl,rfl⟩⟩:=hex
  ·have hcs:=hc s hp;rw[if_pos ⟨hcs,rfl,rfl,by simp[enc]⟩];refine⟨_,_,rfl,⟨fun s' hs'=>?_,fun a b=>by have:=R.bd a b;omega,fun a b ha hb=>?_⟩⟩
   ·rw[q8g];simp only[enc,z6e];by_cases e:s'=s
    ·subst e;simp
    ·have e':¬s=s':=fun q=>e q.symm;simp only[e,e',if_false];exact R.us s' hs'
   ·rw[R.wt a b ha hb];cases a<;>cases b<;>rfl
  ·have hcs:=hc s hp;rw[if_pos ⟨hcs,rfl,rfl,by simp[enc]⟩];refine⟨_,_,rfl,⟨fun s' hs'=>?_,fun a b=>by have:=R.bd a b;omega,fun a b ha hb=>?_⟩⟩
   ·rw[q8g];simp only[enc,z6e];by_cases e:s'=s
    ·subst e;simp
    ·have e':¬s=s':=fun q=>e q.symm;simp only[e,e',if_false];exact R.us s' hs'
   ·rw[R.wt a b ha hb];cases a<;>cases b<;>rfl
theorem v5e(F:Nat)(k:z0u->Option (List Tx)):∀(l:List q8a) (m:z0u),j7h F k l m=k (z6f m (l.map (·.to)))
 |[],m=>rfl
 |x::l,m=>by rw[j7h,v5e F k l];rfl
theorem w2u(F:Nat)(hF:10000<=F)(l:q1a)(hl:l.aims.length<=501):∃r,M68 F l=some r/\r.Nodup/\r.length<=501/\∀y,y∈r<->∃a,a∈l.aims/\a.to=y:=by
 have hk:∀y,y∈(z6f [] (l.aims.map (·.to))).map (·.1)<->∃a,a∈l.aims/\a.to=y:=fun y=>by
  rw[j8w];simp
 have hn:=j8n (l.aims.map (·.to)) [] (by simp)
 have hlen:(z6f [] (l.aims.map (·.to))).length<=501:=by
  have:=ck8 (l₂:=l.aims.map (·.to)) hn (fun y hy=>by
   obtain⟨a,h1,h2⟩:=(hk y).1 hy;exact bk9.2 ⟨a,h1,h2⟩)
  simp at this;omega
 obtain⟨r,e,h1,h2⟩:=y9c F hF _ hn (by omega);refine⟨r,?_,h1.imp fun {a b} h=>z0h h,?_,fun y=>by rw[h2,hk]⟩
 ·unfold M68;rw[q9e,v5e,e];rfl
 ·have:=ck8 (l₂:=(z6f [] (l.aims.map (·.to))).map (·.1)) (h1.imp fun {a b} h=>z0h h) (fun y hy=>(h2 y).1 hy);simp at this;omega
def bkG(m:List (Tx×List q1b))(y:Tx):List q1b:=(q3b m y).getD []
def j0v(y:Tx)(l:q1a):Bool:=l.aims.any fun a=>a.to==y
theorem v7g(F:Nat)(lk:q1a)(k:List (Tx×List q1b)->Option (List (Tx×List q1b))){B:Nat}(hB:B<=1000000):
  ∀(r:List Tx) (m:List (Tx×List q1b)),r.Nodup->(∀y,y∈r->(bkG m y).length<=B)->∃m',j2j F lk k r m=k m'/\∀y,bkG m' y=bkG m y++if y∈r then [lk.site] else []
 |[],m,hn,hb=>⟨m,rfl,fun y=>by simp⟩
 |x::r,m,hn,hb=>by
  obtain⟨h1,h2⟩:=aa9.1 hn;have hx:=hb x (by simp)
  have key:∀y,bkG (q0d m x (((q3b m x).getD [])++[lk.site])) y=if x=y then bkG m x++[lk.site] else bkG m y:=fun y=>by
   unfold bkG;rw[q8g];split<;>rfl
  obtain⟨m',e,h3⟩:=v7g F lk k hB r (q0d m x (((q3b m x).getD [])++[lk.site])) h2 (fun y hy=>by
   rw[key,if_neg (fun e:x=y=>h1 (by rw[e];exact hy))];exact hb y (cl9 _ hy))
  refine⟨m',?_,fun y=>?_⟩
  ·rw[j2j,if_pos (by unfold bkG at hx;simp;omega)];exact e
  ·rw[h3,key];by_cases e:x=y
   ·subst e;rw[if_pos rfl,if_neg h1,if_pos (by simp),aa8]
   ·rw[if_neg e];have:y∈x::r<->y∈r:=by rw[ax8];exact⟨fun q=>q.resolve_left (fun e'=>e e'.symm),.inr⟩
    simp only[this]
theorem v8g(F:Nat)(hF:10000<=F)(k:List (Tx×List q1b)->Option (List (Tx×List q1b))):
  ∀(ls:List q1a) (m:List (Tx×List q1b)) (B:Nat),(∀l,l∈ls->l.aims.length<=501)->(∀y,(bkG m y).length<=B)->B+ls.length<=1000000->∃m',z9x F k ls m=k m'/\∀y,bkG m' y=bkG m y++(ls.filter (j0v y)).map (·.site)
 |[],m,B,ha,hb,hl=>⟨m,rfl,fun y=>by simp⟩
 |l::ls,m,B,ha,hb,hl=>by
  simp only[cj8] at hl;obtain⟨r,e,h1,h2,h3⟩:=w2u F hF l (ha l (by simp));obtain⟨m1,e1,h4⟩:=v7g F l (fun m65=>z9x F k ls m65) (B:=B) (by omega) r m h1 (fun y _=>hb y)
  obtain⟨m2,e2,h5⟩:=v8g F hF k ls m1 (B+1) (fun l hl=>ha l (cl9 _ hl)) (fun y=>by
   rw[h4];have:=hb y;split<;>simp<;>omega) (by omega)
  refine⟨m2,?_,fun y=>?_⟩
  ·rw[z9x,q9e,e,cl8,q9e];exact e1.trans e2
  ·rw[h5,h4,ab9];have:j0v y l=true<->y∈r:=by rw[h3];unfold j0v;simp
   by_cases q:y∈r
   ·rw[if_pos q,if_pos (this.2 q)];simp
   ·rw[if_neg q,if_neg (fun h=>q (this.1 h))];simp
section
variable{g:q4c}{fs:List Tx}{n:q1d}
theorem y6d(R:q5i g){x:q8e}{l:q1a}(h:l∈LK g fs x):l.aims.length<=501:=by
 obtain⟨i,hi,_,rfl⟩:=z0z.1 h;exact v5r R _
theorem w8h{x:q8e}(R:q5i g)(hx:x∈g.Funcs):(LK g fs x).length<=200:=by
 have h2:=j9s g (onF fs) x.Name x.Calls 0;have h3:=(R.f x hx).len;unfold LK;omega
theorem v9g(F:Nat)(hF:10000<=F)(R:q5i g)(N:v5c g fs n)(k:List (Tx×List q1b)->Option (List (Tx×List q1b))):
  ∀(l:List q8e) (m:List (Tx×List q1b)) (B:Nat),(∀x,x∈l->x∈g.Funcs)->(∀y,(bkG m y).length<=B)->B+200*l.length<=1000000->∃m',z0y F n k l m=k m'/\∀y,bkG m' y=bkG m y++((l.flatMap (LK g fs)).filter (j0v y)).map (·.site)
 |[],m,B,ha,hb,hl=>⟨m,rfl,fun y=>by simp⟩
 |x::l,m,B,ha,hb,hl=>by
  simp only[cj8] at hl;have hx:=ha x (by simp);have hlen:=w8h (fs:=fs) R hx;have hlk:(q3b n.links x.Name).getD []=LK g fs x:=N.l x hx;obtain⟨m1,e1,h4⟩:=v8g F hF (fun m52=>z0y F n k l m52) (LK g fs x) m B (fun l hl=>y6d R hl) hb (by omega)
  obtain⟨m2,e2,h5⟩:=v9g F hF R N k l m1 (B+200) (fun l hl=>ha l (cl9 _ hl)) (fun y=>by
   rw[h4,bp8,br9];have:=hb y;have:=ab8 (j0v y) (LK g fs x);omega) (by omega)
  refine⟨m2,?_,fun y=>?_⟩
  ·rw[z0y,q9e,q9e,hlk];exact e1.trans e2
  ·rw[h5,h4,List.flatMap_cons,List.filter_append];simp
def w8u(g:q4c)(fs:List Tx)(m:List (Tx×List q1b)):Prop:=∀y,bkG m y=((j2n g fs).filter (j0v y)).map (·.site)
theorem y6r(F:Nat)(hF:10000<=F)(R:q5i g)(N:v5c g fs n):∃m,M37 F n=some m/\w8u g fs m:=by
 have hfl:=R.fl;obtain⟨m,e,h⟩:=v9g F hF R N (fun m41=>some m41) g.Funcs [] 0 (fun _ h=>h) (fun y=>by simp[bkG,q3b]) (by omega);refine⟨m,?_,fun y=>by rw[h];simp[bkG,q3b,j2n]⟩;unfold M37;rw[q9e,N.gr];exact e
theorem w8u.mem{m:List (Tx×List q1b)}(h:w8u g fs m){y:Tx}{s:q1b}:s∈bkG m y<->s∈LsG g fs/\z2z g fs s y:=by
 rw[h,bk9];constructor
 ·rintro⟨l,h1,rfl⟩
  obtain⟨h2,h3⟩:=cm9.1 h1;refine⟨bk9.2 ⟨l,h2,rfl⟩,l,h2,rfl,?_⟩;unfold j0v at h3
  simpa using h3
 ·rintro⟨_,l,h2,rfl,h3⟩
  refine⟨l,cm9.2 ⟨h2,?_⟩,rfl⟩;unfold j0v
  simpa using h3
theorem w8u.len{m:List (Tx×List q1b)}(h:w8u g fs m)(R:q5i g)(y:Tx):(bkG m y).length<=600000:=by
 rw[h,br9];have h1:=ab8 (j0v y) (j2n g fs);have h2:=z4j (fs:=fs) R;omega
theorem v8s(R:q5i g){x:q8e}(hx:x∈g.Funcs){l:q1a}:l∈LK g fs x<->l∈j2n g fs/\l.site.Func=x.Name:=by
 constructor
 ·intro h;refine⟨ac9.2 ⟨x,hx,h⟩,?_⟩;obtain⟨i,hi,_,rfl⟩:=z0z.1 h;rfl
 ·rintro⟨h1,h2⟩
  obtain⟨y,hy,h⟩:=ac9.1 h1
  have e:l.site.Func=y.Name:=by
   obtain⟨i,hi,_,rfl⟩:=z0z.1 h;rfl
  have:=v9k R hx hy (by rw[<-h2,e]);rw[this];exact h
theorem y1q(F:Nat)(R:q5i g)(N:v5c g fs n)(used:List (q1b×Bool))(U:Um)(m:List (Tx×List q1b)){l:q1a}(hl:l∈j2n g fs)(b:Bool):M93 F (q9c.mk n used U m) (q0a.mk l.site.Func l.site.Call b)=some l:=by
 obtain⟨x,hx,i,hi,_,el⟩:=q4r.1 hl;have hn:l.site.Func=x.Name:=by rw[el]
 have hlk:(q3b n.links l.site.Func).getD []=LK g fs x:=by rw[hn];exact N.l x hx
 have hm:l∈LK g fs x:=(v8s R hx).2 ⟨hl,hn⟩
 have key:∀ls:List q1a,(∀l',l'∈ls->l'∈LK g fs x)->l∈ls->∀k,j1h F (q0a.mk l.site.Func l.site.Call b) k ls=some l:=by
  intro ls
  induction ls with
  |nil=>intro _ h;simp at h
  |cons y ls ih=>
   intro hs h k;rw[j1h];by_cases e:y.site.Call=l.site.Call
   ·rw[if_pos (by simpa using e)];have hy:=(v8s R hx).1 (hs y (by simp))
    rw[v1c R hy.1 hl (by
     have e1:y.site.Func=l.site.Func:=by rw[hy.2,hn]
     cases h1:y.site;cases h2:l.site;rw[h1,h2] at e e1;simp only at e e1;rw[e,e1])]
   ·rw[if_neg (by simpa using e)];rcases ax8.1 h with h|h
    ·exact absurd (by rw[h]) e
    ·exact ih (fun l' h'=>hs l' (cl9 _ h')) h k
 unfold M93;rw[q9e,hlk];exact key _ (fun _ h=>h) hm _
theorem v1e(F:Nat)(k:List Rn->Option (List Rn)):∀(ls:List q1a) (acc:List Rn),acc.length+ls.length<=2000000->z9w F k ls acc=k (acc++ls.map fun l=>enc (.A l.site))
 |[],acc,h=>by simp[z9w]
 |l::ls,acc,h=>by
  simp only[cj8] at h;rw[z9w,show M42 F l.site=some (enc (.A l.site)) from rfl,cl8,if_pos (by simp;omega),v1e F k ls _ (by simp;omega)];simp
theorem v0e(F:Nat)(k:List Rn->Option (List Rn)):∀(ls:List Tx) (acc:List Rn),acc.length+ls.length<=2000000->z7w F k ls acc=k (acc++ls.map fun y=>enc (.F y))
 |[],acc,h=>by simp[z7w]
 |l::ls,acc,h=>by
  simp only[cj8] at h;rw[z7w,show M40 F l=some (enc (.F l)) from rfl,cl8,if_pos (by simp;omega),v0e F k ls _ (by simp;omega)];simp
theorem y0f{α:Type}(U:Um)(y a:Rn)(A B:α):(if ((q3b U y).isSome)=true then (if (decide (((q3b ((q3b U y).getD []) a).getD 0)>0))=true then A else B) else (if decide ((0:Int)>0)=true then A else B))=if 0<un U y a then A else B:=by
 cases h:(q3b U y).isSome
 ·rw[if_neg (by simp),if_neg (by simp)]
  have z:un U y a=0:=by
   unfold un;cases h':q3b U y with
   |none=>rfl
   |some v=>rw[h'] at h;simp at h
  rw[z,if_neg (by omega)]
 ·rw[if_pos rfl];by_cases q:0<un U y a
  ·rw[if_pos q,if_pos (by simpa[un] using q)]
  ·rw[if_neg q,if_neg (by simpa[un] using q)]
theorem j6h(F:Nat)(used:List (q1b×Bool))(U:Um)(m:List (Tx×List q1b))(a:Rn)(k:List Rn->Option (List Rn)):∀(ss:List q1b) (acc:List Rn),acc.length+ss.length<=2000000->z8w F (q9c.mk n used U m) a k ss acc=k (acc++(ss.filter fun s=>decide (0<un U (enc (.B s)) a)).map fun s=>enc (.B s))
 |[],acc,h=>by simp[z8w]
 |s::ss,acc,h=>by
  simp only[cj8] at h;rw[z8w];simp only[q9e];rw[show M43 F s=some (enc (.B s)) from rfl,cl8];simp only[cl8];refine(y0f U (enc (.B s)) a _ _).trans ?_;rw[ab9];by_cases q:0<un U (enc (.B s)) a
  ·rw[if_pos q,if_pos (by simp;omega),j6h F used U m a k ss _ (by simp;omega),if_pos (by simpa using q)];simp
  ·rw[if_neg q,j6h F used U m a k ss _ (by omega),if_neg (by simpa using q)]
theorem z7r{s:q1b}(h:s∈LsG g fs):0<=s.Call:=by
 obtain⟨l,hl,rfl⟩:=bk9.1 h;obtain⟨x,hx,i,hi,_,rfl⟩:=q4r.1 hl;simp only;omega
theorem w1u(F:Nat)(hF:10000<=F)(R:q5i g)(N:v5c g fs n){m:List (Tx×List q1b)}(hm:w8u g fs m){K:Nat}{st:UvS}{used:List (q1b×Bool)}{U:Um}(Q:Rl (LsG g fs) (FsG g) K st used U)(hu:∀s,st.u s=0\/st.u s=1){a:Nd}(ha:Vd (LsG g fs) (FsG g) a):
    ∃r,M70 F (q9c.mk n used U m) (enc a)=some r/\∀b,b∈r<->∃c,Vd (LsG g fs) (FsG g) c/\b=enc c/\Av (LsG g fs) (z2z g fs) st a c:=by
  have hinF:∀s,s∈LsG g fs->s.Func∈FsG g:=fun s hs=>z5h hs;cases a with
  |F f=>
    obtain⟨x,hx,hf⟩:=bk9.1 (show f∈FsG g from ha);subst hf;have hlk:(q3b n.links x.Name).getD []=LK g fs x:=N.l x hx;have h1:=w8h (fs:=fs) R hx;have h2:=hm.len R x.Name;refine⟨((LK g fs x).map fun l=>enc (.A l.site))++((bkG m x.Name).filter fun s=>decide (0<un U (enc (.B s)) (enc (.F x.Name)))).map fun s=>enc (.B s),?_,fun b=>?_⟩
    · unfold M70
      rw[if_pos (by simp[enc])];simp only[q9e];have e1:(enc (.F x.Name)).name=x.Name:=rfl;rw[e1,hlk,v1e F _ _ _ (by simp;omega),ac8];refine(j6h F used U m _ _ _ _ (by show _+(bkG m x.Name).length<=_;simp;omega)).trans ?_;rfl
    · rw[cm8,bk9,bk9]
      constructor
      · rintro(⟨l,hl,rfl⟩|⟨s,hs,rfl⟩)
        · obtain⟨q1,q2⟩:=(v8s R hx).1 hl
          have hs:l.site∈LsG g fs:=bk9.2 ⟨l,q1,rfl⟩;exact⟨.A l.site,hs,rfl,hs,q2⟩
        · obtain⟨q1,q2⟩:=cm9.1 hs
          obtain⟨q3,q4⟩:=hm.mem.1 q1;refine⟨.B s,q3,rfl,q3,q4,?_⟩;simp only[decide_eq_true_eq] at q2;rw[Q.wt (.B s) (.F x.Name) q3 ha] at q2;exact q2
      · rintro⟨c,hc,rfl,hav⟩
        cases c with
        |F y=>exact hav.elim
        |A s=>
          obtain⟨l,hl,e⟩:=bk9.1 hav.1;subst e;exact .inl ⟨l,(v8s R hx).2 ⟨hl,hav.2⟩,rfl⟩
        |B s=>
          refine .inr ⟨s,cm9.2 ⟨hm.mem.2 ⟨hav.1,hav.2.1⟩,?_⟩,rfl⟩;simp only[decide_eq_true_eq];rw[Q.wt (.B s) (.F x.Name) hc ha];exact hav.2.2
  |A s=>
    have hcs:=z7r (show s∈LsG g fs from ha);have hus:=Q.us s ha;have e3:q1b.mk (enc (.A s)).name (enc (.A s)).call=s:=rfl;refine⟨(if st.u s=0 then [enc (.B s)] else [])++(if 0<un U (enc (.F s.Func)) (enc (.A s)) then [enc (.F s.Func)] else []),?_,fun b=>?_⟩
    · unfold M70
      rw[if_neg (show ¬decide ((enc (.A s)).call<0)=true from by intro q;have q:=of_decide_eq_true q;simp only[enc] at q;omega),if_pos (show(!(enc (.A s)).end_)=true by simp[enc])];simp only[q9e,e3];rw[hus];have hk:∀l46:List Rn,l46.length<=10->((M40 F (enc (.A s)).name).bind fun y51=>if ((q3b U y51).isSome)=true then (if (decide (((q3b ((q3b U y51).getD []) (enc (.A s))).getD 0)>0))=true then (M40 F (enc (.A s)).name).bind fun y57=>if (l46++([y57]:List Rn)).length*32<=140737488355328 then some (l46++([y57]:List Rn)) else none
  else some l46)
  else (if (decide ((0:Int)>0))=true then (M40 F (enc (.A s)).name).bind fun y63=>if (l46++([y63]:List Rn)).length*32<=140737488355328 then some (l46++([y63]:List Rn)) else none
  else some l46))=some (l46++(if 0<un U (enc (.F s.Func)) (enc (.A s)) then [enc (.F s.Func)] else [])):=by
        intro l46 hl;have e4:M40 F (enc (.A s)).name=some (enc (.F s.Func)):=rfl;rw[e4,cl8];simp only[cl8];rw[y0f];split
        · rw[if_pos (by simp;omega)]
        · simp
      rcases hu s with h0|h0
      · rw[h0,if_pos (by simp),show M43 F s=some (enc (.B s)) from rfl,cl8,if_pos (by simp)]
        exact hk _ (by simp)
      · rw[h0,if_neg (by simp)]
        exact hk _ (by simp)
    · rw[cm8]
      rw[Q.wt (.F s.Func) (.A s) (hinF s ha) ha];have ew:Wt st (.F s.Func) (.A s)=st.i s:=by simp[Wt]
      rw[ew];constructor
      · rintro(h|h)
        · split at h
          · rename_i q
            simp only[bx9] at h;exact⟨.B s,ha,h,rfl,ha,q⟩
          · simp at h
        · split at h
          · rename_i q
            simp only[bx9] at h;exact⟨.F s.Func,hinF s ha,h,ha,rfl,q⟩
          · simp at h
      · rintro⟨c,hc,rfl,hav⟩
        cases c with
        |F y=>
          obtain⟨_,q1,q2⟩:=hav;rw[q1,if_pos q2];simp
        |A s'=>exact hav.elim
        |B s'=>
          obtain⟨q1,_,q2⟩:=hav;subst q1;rw[if_pos q2];simp
  |B s=>
    have hcs:=z7r (show s∈LsG g fs from ha);have hus:=Q.us s ha;obtain⟨l,hl,e⟩:=bk9.1 (show s∈LsG g fs from ha);subst e;obtain⟨x,hx,_⟩:=q4r.1 hl
    have hla:l.aims.length<=501:=by
      obtain⟨x,hx,i,hi,_,rfl⟩:=q4r.1 hl;exact v5r R _
    obtain⟨r,e1,h1,h2,h3⟩:=w2u F hF l hla;have e3:q1b.mk (enc (.B l.site)).name (enc (.B l.site)).call=l.site:=rfl;refine⟨(r.map fun y=>enc (.F y))++(if st.u l.site=1 then [enc (.A l.site)] else []),?_,fun b=>?_⟩
    · unfold M70
      have e2:M93 F (q9c.mk n used U m) (enc (.B l.site))=some l:=y1q F R N used U m hl true;rw[if_neg (show ¬decide ((enc (.B l.site)).call<0)=true from by intro q;have q:=of_decide_eq_true q;simp only[enc] at q;omega),if_neg (show ¬(!(enc (.B l.site)).end_)=true by simp[enc]),e2,cl8,e1,cl8];simp only[q9e,e3];rw[v0e F _ _ _ (by simp;omega),hus,ac8];rcases hu l.site with h0|h0
      · rw[h0,if_neg (by simp)];simp
      · rw[h0,if_pos (by simp),show M42 F l.site=some (enc (.A l.site)) from rfl,cl8,if_pos (by simp;omega)]
        simp
    · rw[cm8,bk9]
      constructor
      · rintro(⟨y,hy,rfl⟩|h)
        · have ht:=(z3n R hl).2 ((h3 y).1 hy)
          exact⟨.F y,v9i R ht,rfl,ha,ht⟩
        · split at h
          · rename_i q
            simp only[bx9] at h;exact⟨.A l.site,ha,h,rfl,ha,q⟩
          · simp at h
      · rintro⟨c,hc,rfl,hav⟩
        cases c with
        |F y=>exact .inl ⟨y,(h3 y).2 ((z3n R hl).1 hav.2),rfl⟩
        |A s'=>
          obtain⟨q1,_,q2⟩:=hav;subst q1;rw[if_pos q2];simp
        |B s'=>exact hav.elim
end
abbrev Pm:=List (Rn×Rn)
structure BI(es:List Tx)(UN:List Rn)(nxt:Rn->List Rn)(m:Pm)(l:List Rn):Prop where
 nd:l.Nodup
 key:∀b,(q3b m b).isSome=true<->b∈l
 sub:∀b,b∈l->b∈UN
 root:∀e,e∈es->q3b m (enc (.F e))=some (enc (.F e))
 par:∀b a,q3b m b=some a->(a=b/\∃f,f∈es/\b=enc (.F f))\/(a∈l/\l.idxOf a<l.idxOf b/\b∈nxt a)
section
variable{es:List Tx}{UN:List Rn}{nxt:Rn->List Rn}
theorem BI.le{m:Pm}{l:List Rn}(I:BI es UN nxt m l):l.length<=UN.length:=ck8 I.nd I.sub
theorem BI.put{m:Pm}{l:List Rn}(I:BI es UN nxt m l){a b:Rn}(ha:a∈l)(hb:b ∉ l)(hn:b∈nxt a)(hu:b∈UN):BI es UN nxt (q0d m b a) (l++[b]):=by
 have hidx:∀c,c∈l->(l++[b]).idxOf c=l.idxOf c:=fun c hc=>by rw[ad9,if_pos hc]
 have hib:(l++[b]).idxOf b=l.length:=by rw[ad9,if_neg hb];simp
 have hne:∀e,e∈es->b≠enc (.F e):=fun e he q=>hb (by rw[q];exact(I.key _).1 (by rw[I.root e he];rfl));refine⟨?_,fun c=>?_,fun c hc=>?_,fun e he=>?_,fun c d hc=>?_⟩
 ·rw[cn9];refine⟨I.nd,by simp,fun x hx y hy e=>?_⟩;simp only[bx9] at hy;subst hy;subst e;exact hb hx
 ·rw[q8g,cm8,bx9];by_cases e:b=c
  ·subst e;simp
  ·rw[if_neg e,I.key];exact⟨.inl,fun q=>q.resolve_right (fun q'=>e q'.symm)⟩
 ·rcases cm8.1 hc with h|h
  ·exact I.sub c h
  ·simp only[bx9] at h;rw[h];exact hu
 ·rw[q8g,if_neg (hne e he)];exact I.root e he
 ·rw[q8g] at hc;by_cases e:b=c
  ·subst e;rw[if_pos rfl,bc8] at hc;subst hc;refine .inr ⟨cm8.2 (.inl ha),?_,hn⟩;rw[hidx _ ha,hib];exact cn8 ha
  ·rw[if_neg e] at hc;have hcl:c∈l:=(I.key c).1 (by rw[hc];rfl);rcases I.par c d hc with h|⟨h1,h2,h3⟩
   ·exact .inl h
   ·exact .inr ⟨cm8.2 (.inl h1),by rw[hidx _ h1,hidx _ hcl];exact h2,h3⟩
theorem BI.enter{m:Pm}{l:List Rn}(I:BI es UN nxt m l){e:Tx}(hb:enc (.F e) ∉ l)(hu:enc (.F e)∈UN):BI (es++[e]) UN nxt (q0d m (enc (.F e)) (enc (.F e))) (l++[enc (.F e)]):=by
 have hidx:∀c,c∈l->(l++[enc (.F e)]).idxOf c=l.idxOf c:=fun c hc=>by rw[ad9,if_pos hc]
 refine⟨?_,fun c=>?_,fun c hc=>?_,fun f hf=>?_,fun c d hc=>?_⟩
 ·rw[cn9];refine⟨I.nd,by simp,fun x hx y hy e'=>?_⟩;simp only[bx9] at hy;subst hy;subst e';exact hb hx
 ·rw[q8g,cm8,bx9];by_cases e':enc (.F e)=c
  ·subst e';simp
  ·rw[if_neg e',I.key];exact⟨.inl,fun q=>q.resolve_right (fun q'=>e' q'.symm)⟩
 ·rcases cm8.1 hc with h|h
  ·exact I.sub c h
  ·simp only[bx9] at h;rw[h];exact hu
 ·rw[q8g];by_cases e':enc (.F e)=enc (.F f)
  ·rw[if_pos e',e']
  ·rw[if_neg e'];rcases cm8.1 hf with h|h
   ·exact I.root f h
   ·simp only[bx9] at h;subst h;exact absurd rfl e'
 ·rw[q8g] at hc;by_cases e':enc (.F e)=c
  ·subst e';rw[if_pos rfl,bc8] at hc;exact .inl ⟨hc.symm,e,by simp,rfl⟩
  ·rw[if_neg e'] at hc;have hcl:c∈l:=(I.key c).1 (by rw[hc];rfl);rcases I.par c d hc with ⟨h,f,h1,h2⟩|⟨h1,h2,h3⟩
   ·exact .inl ⟨h,f,by simp[h1],h2⟩
   ·exact .inr ⟨cm8.2 (.inl h1),by rw[hidx _ h1,hidx _ hcl];exact h2,h3⟩
theorem j7i(F:Nat)(hU:UN.length<=2000000)(hx:∀a,a∈UN->∀b,b∈nxt a->b∈UN)(k:Pm->List Rn->Option Pm){p:Nat}{a:Rn} :
  ∀(bs:List Rn) (m:Pm) (l:List Rn),BI es UN nxt m l->l[p]? = some a->(∀b,b∈bs->b∈nxt a)->∃m' l',j8i F p k bs m l=k m' l'/\BI es UN nxt m' l'/\(∃x,l'=l++x)/\∀b,b∈bs->b∈l'
 |[],m,l,I,hp,hb=>⟨m,l,rfl,I,⟨[],by simp⟩,by simp⟩
 |b::bs,m,l,I,hp,hb=>by
  have hal:a∈l:=bd8 hp;have hbn:=hb b (by simp);rw[j8i,q9e];cases hs:(q3b m b).isSome
  ·have hbl:b ∉ l:=fun q=>by have:=(I.key b).2 q;rw[hs] at this;simp at this
   have I':=I.put hal hbl hbn (hx a (I.sub a hal) b hbn);have hl:=I.le;have hpl:p<l.length:=(bi8.1 hp).1;rw[if_pos (by simp),z5c hp,cl8,if_pos (by simp;omega)];obtain⟨m',l',e,h1,⟨x,h2⟩,h3⟩:=j7i F hU hx k bs _ _ I' (by rw[az9 hpl];exact hp) (fun c hc=>hb c (cl9 _ hc));refine⟨m',l',e,h1,⟨[b]++x,by rw[h2];simp⟩,fun c hc=>?_⟩;rcases ax8.1 hc with e|e
   ·subst e;rw[h2];simp
   ·exact h3 c e
  ·rw[if_neg (by simp)];obtain⟨m',l',e,h1,⟨x,h2⟩,h3⟩:=j7i F hU hx k bs m l I hp (fun c hc=>hb c (cl9 _ hc));refine⟨m',l',e,h1,⟨x,h2⟩,fun c hc=>?_⟩;rcases ax8.1 hc with e|e
   ·subst e;rw[h2];exact cm8.2 (.inl ((I.key c).1 hs))
   ·exact h3 c e
theorem v3g(F:Nat)(y:q9c)(hU:UN.length<=2000000)(hx:∀a,a∈UN->M70 F y a=some (nxt a)/\∀b,b∈nxt a->b∈UN)(k:Pm->Option Pm):
  ∀(n p:Nat) (m:Pm) (l:List Rn),BI es UN nxt m l->p<=l.length->(∀q,q<p->∀a,l[q]? = some a->∀b,b∈nxt a->b∈l)->UN.length<n+p->
   ∃m' l',z4r F y k n p m l=k m'/\BI es UN nxt m' l'/\∀a,a∈l'->∀b,b∈nxt a->b∈l'
 |0,p,m,l,I,hp,hd,hm=>by
  have:=I.le;omega
 |n+1,p,m,l,I,hp,hd,hm=>by
  have hl:=I.le;rw[z4r];by_cases h:p<l.length
  ·rw[if_pos (by simpa using h),q9e];have hq:l[p]? = some l[p]:=be8 h;obtain⟨h1,h2⟩:=hx l[p] (I.sub _ (bh8 h));rw[z5c hq,cl8,h1,cl8,q9e];obtain⟨m1,l1,e1,I1,⟨x,hx1⟩,h3⟩:=j7i F hU (fun a ha=>(hx a ha).2) (fun(m96:Pm) (l97:List Rn)=>z4r F y k n (w64 ((p:Int)+1)) m96 l97) (nxt l[p]) m l I hq (fun b hb=>hb);have hw:w64 ((p:Int)+1)=((p+1:Nat):Int):=by rw[q9r (by omega) (by omega)];omega
   obtain⟨m2,l2,e2,I2,h4⟩:=v3g F y hU hx k n (p+1) m1 l1 I1 (by rw[hx1];simp;omega) (fun q hq1 a ha b hb=>by
    rw[hx1,az9 (by omega)] at ha;by_cases e:q=p
    ·subst e;rw[hq,bc8] at ha;subst ha;exact h3 b hb
    ·rw[hx1];exact cm8.2 (.inl (hd q (by omega) a ha b hb))) (by omega)
   refine⟨m2,l2,?_,I2,h4⟩;rw[hw] at e1;refine Eq.trans ?_ (e1.trans e2);simp only[hw]
  ·rw[if_neg (by simpa using h)];refine⟨m,l,rfl,I,fun a ha b hb=>?_⟩;obtain⟨q,hq,e⟩:=br8 ha;exact hd q (by omega) a (by rw[be8 hq,e]) b hb
theorem v4g(F:Nat)(hU:UN.length<=2000000)(k:Pm->List Rn->Option Pm):∀(el done:List Tx) (m:Pm),(done++el).Nodup->(∀e,e∈el->enc (.F e)∈UN)->BI done UN nxt m (done.map fun e=>enc (.F e))->
      ∃m',j9i F k el m (done.map fun e=>enc (.F e))=k m' ((done++el).map fun e=>enc (.F e))/\BI (done++el) UN nxt m' ((done++el).map fun e=>enc (.F e))
  |[],done,m,hn,hu,I=>⟨m,by rw[aa8];rfl,by rw[aa8];exact I⟩
  |e::el,done,m,hn,hu,I=>by
    have hl:=I.le
    have hne:enc (.F e) ∉ done.map fun e=>enc (.F e):=by
      intro q;obtain⟨f,hf,h⟩:=bk9.1 q;have h:f=e:=by simpa[enc] using h
      subst h;exact(cn9.1 hn).2.2 f hf f (by simp) rfl
    have I':=I.enter hne (hu e (by simp));have e0:(done.map fun e=>enc (.F e))++[enc (.F e)]=(done++[e]).map fun e=>enc (.F e):=by simp
    rw[e0] at I';obtain⟨m',e1,I2⟩:=v4g F hU k el (done++[e]) _ (by simpa using hn) (fun f hf=>hu f (cl9 _ hf)) I';refine⟨m',?_,by simpa using I2⟩;rw[j9i,show M40 F e=some (enc (.F e)) from rfl,cl8,cl8,cl8,if_pos (by simp at hl ⊢;omega),e0,e1];simp
theorem y4r(F:Nat)(y:q9c)(hF:3000000<=F)(hU:UN.length<=2000000)(hx:∀a,a∈UN->M70 F y a=some (nxt a)/\∀b,b∈nxt a->b∈UN)(hn:y.n.g.Entries.Nodup)(hu:∀e,e∈y.n.g.Entries->enc (.F e)∈UN):
  ∃m l,M39 F y=some m/\BI y.n.g.Entries UN nxt m l/\∀a,a∈l->∀b,b∈nxt a->b∈l:=by
 have I0:BI [] UN nxt [] (([]:List Tx).map fun e=>enc (.F e)):=⟨by simp,fun b=>by simp[q3b],by simp,by simp,fun b a h=>by simp[q3b] at h⟩;obtain⟨m1,e1,I1⟩:=v4g F hU (fun(m60:Pm) (l61:List Rn)=>jn (fun(m80:Pm)=>some m80) (fun k79=>z4r F y k79 F 0 m60 l61)) y.n.g.Entries [] [] (by simpa using hn) hu I0;obtain⟨m2,l2,e2,I2,h⟩:=v3g F y hU hx (fun m80=>some m80) F 0 m1 _ I1 (by omega) (fun q hq=>by omega) (by omega);refine⟨m2,l2,?_,by simpa using I2,h⟩;unfold M39;rw[q9e];refine e1.trans ?_;simp only[q9e];exact e2
end
def unG(g:q4c)(fs:List Tx):List Rn:=((FsG g).map fun x=>enc (.F x))++((LsG g fs).map fun s=>enc (.A s))++((LsG g fs).map fun s=>enc (.B s))
section
variable{g:q4c}{fs:List Tx}
theorem j9b{r:Rn}:r∈unG g fs<->∃n,Vd (LsG g fs) (FsG g) n/\r=enc n:=by
 unfold unG;rw[cm8,cm8,bk9,bk9,bk9];constructor
 ·rintro((⟨x,h,rfl⟩|⟨s,h,rfl⟩)|⟨s,h,rfl⟩)
  ·exact⟨.F x,h,rfl⟩
  ·exact⟨.A s,h,rfl⟩
  ·exact⟨.B s,h,rfl⟩
 ·rintro⟨n,h,rfl⟩
  cases n with
  |F x=>exact .inl (.inl ⟨x,h,rfl⟩)
  |A s=>exact .inl (.inr ⟨s,h,rfl⟩)
  |B s=>exact .inr ⟨s,h,rfl⟩
theorem w0v(R:q5i g):(unG g fs).length<=1300000:=by
 have h1:=R.fl;have h2:=z4j (fs:=fs) R;unfold unG;simp;omega
open Classical in
noncomputable def v0u(g:q4c)(fs:List Tx)(m:Pm)(n:Nd):Option Nd:=if Vd (LsG g fs) (FsG g) n then (q3b m (enc n)).map dec else none
theorem z8f{m:Pm}{n:Nd}(h:Vd (LsG g fs) (FsG g) n):v0u g fs m n=(q3b m (enc n)).map dec:=by unfold v0u;rw[if_pos h]
theorem bf_ok(R:q5i g){nxt:Rn->List Rn}{st:UvS}{m:Pm}{l:List Rn}(hx:∀a,Vd (LsG g fs) (FsG g) a->∀b,b∈nxt (enc a)<->∃c,Vd (LsG g fs) (FsG g) c/\b=enc c/\Av (LsG g fs) (z2z g fs) st a c)
  (I:BI g.Entries (unG g fs) nxt m l) (hcl:∀a,a∈l->∀b,b∈nxt a->b∈l):BF (LsG g fs) (FsG g) (z2z g fs) (ZG g) st (v0u g fs m) (fun n=>l.idxOf (enc n)):=by
 have hc:∀s,s∈LsG g fs->0<=s.Call:=fun s hs=>z7r hs
 have hen:∀e,e∈g.Entries->e∈FsG g:=fun e he=>by
  obtain⟨f,h1,h2⟩:=q7x.1 (R.e e he);exact bk9.2 ⟨f,h1,h2⟩
 have hvd:∀b,(v0u g fs m b).isSome=true->Vd (LsG g fs) (FsG g) b/\enc b∈l:=fun b hb=>by
  unfold v0u at hb;split at hb
  ·rename_i q;exact⟨q,(I.key _).1 (by simpa using hb)⟩
  ·simp at hb
 have his:∀b,Vd (LsG g fs) (FsG g) b->enc b∈l->(v0u g fs m b).isSome=true:=fun b hb hl=>by
  rw[z8f hb];simpa using (I.key _).2 hl
 refine⟨fun f hf hz=>?_,fun a b ha hav hb=>?_,fun b a hba=>?_,fun b hb=>(hvd b hb).1⟩
 ·rw[z8f (n:=.F f) hf,I.root f hz];rfl
 ·obtain⟨h1,h2⟩:=hvd a ha;exact his b hb (hcl _ h2 _ ((hx a h1 _).2 ⟨b,hb,rfl,hav⟩))
 ·obtain⟨h1,h2⟩:=hvd b (by rw[hba];rfl);rw[z8f h1] at hba;obtain⟨ra,h3,h4⟩:=ad8.1 hba;rcases I.par _ _ h3 with ⟨q1,f,q2,q3⟩|⟨q1,q2,q3⟩
  ·refine .inl ⟨by rw[<-h4,q1,j5f hc h1],f,q2,?_⟩;exact(z4m hc h1 (show Vd (LsG g fs) (FsG g) (.F f) from hen f q2)).1 q3
  ·obtain⟨a',h5,rfl⟩:=j9b.1 (I.sub _ q1);rw[j5f hc h5] at h4;subst h4;obtain⟨c,h6,h7,h8⟩:=(hx a' h5 _).1 q3;rw[<-(z4m hc h1 h6).1 h7] at h8;exact .inr ⟨q2,h8,his a' h5 q1⟩
end
theorem w8p.mono{Ls:List q1b}{Fs:List Tx}{tos:q1b->Tx->Prop}{K K':Nat}{st:UvS}(I:w8p Ls Fs tos K st)(h:K<=K'):w8p Ls Fs tos K' st:=⟨I.u,fun s=>by have:=I.i s;omega,fun s y=>by have:=I.v s y;omega,I.vt⟩
theorem Rl.mono{Ls:List q1b}{Fs:List Tx}{K K':Nat}{st:UvS}{used:List (q1b×Bool)}{U:Um}(R:Rl Ls Fs K st used U)(h:K<=K'):Rl Ls Fs K' st used U:=⟨R.us,fun a b=>by have:=R.bd a b;omega,R.wt⟩
section
variable{g:q4c}{fs:List Tx}
theorem v2x(F:Nat)(R:q5i g)(y15:q1d)(y17:List (Tx×List q1b)){t:Tx}(ht:t ∉ g.Entries){st0:UvS}{m:Pm}{l:List Rn}
  (Q:BF (LsG g fs) (FsG g) (z2z g fs) (ZG g) st0 (v0u g fs m) (fun n=>l.idxOf (enc n))) (hra:∀c ra,q3b m c=some ra->∃a,Vd (LsG g fs) (FsG g) a/\ra=enc a) (k:List (q1b×Bool)->Um->Option (List q1b×Bool×Int)):
  ∀(r:Nat) (cur:Nd) (used:List (q1b×Bool)) (U:Um) (st:UvS) (K n:Nat),l.idxOf (enc cur)<r->r<=n->(v0u g fs m cur).isSome=true->Rl (LsG g fs) (FsG g) K st used U->w8p (LsG g fs) (FsG g) (z2z g fs) K st->K+r<=1000000000000000->
   (∀c a,v0u g fs m c=some a->a≠c->l.idxOf (enc c)<=l.idxOf (enc cur)->Av (LsG g fs) (z2z g fs) st a c)->
   (∀x,Vd (LsG g fs) (FsG g) x->(∀f,ZG g f->x≠.F f)->x≠.F t->exs (LsG g fs) (FsG g) st x=if x=cur then -1 else 0)->l.idxOf (enc cur)<=l.idxOf (enc (.F t))->t∈FsG g->
   ∃used' U' st',j4k F y15 y17 m k n (enc cur).name (enc cur).call (enc cur).end_ used U=k used' U'/\Rl (LsG g fs) (FsG g) (K+r) st' used' U'/\v9v (LsG g fs) (FsG g) (z2z g fs) (ZG g) t (K+r) st'/\
    exs (LsG g fs) (FsG g) st' (.F t)=exs (LsG g fs) (FsG g) st (.F t)+if cur=.F t then 1 else 0
 |0,cur,used,U,st,K,n,hr,hn,hp,Rr,I,hK,hav,hex,hrk,htF=>by omega
 |r+1,cur,used,U,st,K,0,hr,hn,hp,Rr,I,hK,hav,hex,hrk,htF=>by omega
 |r+1,cur,used,U,st,K,n+1,hr,hn,hp,Rr,I,hK,hav,hex,hrk,htF=>by
  have hc:∀s,s∈LsG g fs->0<=s.Call:=fun s hs=>z7r hs;have hvc:=Q.vd cur hp;obtain⟨a,ha⟩:=ae9.1 hp;have hnode:q0a.mk (enc cur).name (enc cur).call (enc cur).end_=enc cur:=rfl
  have hva:Vd (LsG g fs) (FsG g) a:=by
   rcases Q.pr cur a ha with ⟨e,_⟩|⟨_,_,h⟩
   ·rw[e];exact hvc
   ·exact Q.vd a h
  have q1e:q3b m (enc cur)=some (enc a):=by
   have ha':=ha;rw[z8f hvc] at ha';obtain⟨ra,h1,h2⟩:=ad8.1 ha';obtain⟨a',h3,rfl⟩:=hra _ _ h1;rw[j5f hc h3] at h2;rw[h1,h2]
  rw[j4k,hnode,q1e,ck9];by_cases he:a=cur
  ·subst he;rw[if_neg (by simp)];rcases Q.pr a a ha with ⟨_,f,hz,rfl⟩|⟨h,_⟩
   ·refine⟨used,U,st,rfl,Rr.mono (by omega),⟨I.mono (by omega),fun x hx h1 h2=>?_⟩,?_⟩
    ·rw[hex x hx h1 h2,if_neg (h1 f hz)]
    ·rw[if_neg (fun e=>ht (by simp only[Nd.F.injEq] at e;rw[<-e];exact hz))];omega
   ·omega
  ·rw[if_pos (by simpa using fun e=>he ((z4m hc hva hvc).1 e))]
   obtain⟨h1,_,h3⟩:l.idxOf (enc a)<l.idxOf (enc cur)/\Av (LsG g fs) (z2z g fs) st0 a cur/\(v0u g fs m a).isSome=true:=by
    rcases Q.pr cur a ha with ⟨e,_⟩|h
    ·exact absurd e he
    ·exact h
   have h2:=hav cur a ha he (ae8 _);obtain⟨used1,U1,e1,R1⟩:=Rr.step (by omega) hc hva hvc h2 F y15.g.Ifaces y15.g.Types y15.g.Funcs y15.g.Entries y15.links y15.funcs y17;have I1:=I.step h2;have hexs:∀{x:Nd},Vd (LsG g fs) (FsG g) x->exs (LsG g fs) (FsG g) (z6e st a cur) x=exs (LsG g fs) (FsG g) st x+(if x=cur then 1 else 0) - (if x=a then 1 else 0):=fun {x} hx=>w1n (Fs:=FsG g) (z0o (z4q R)) (z9h R) (fun s y h=>v9i R h) h2 hx
   obtain⟨used2,U2,st2,e2,R2,T2,x2⟩:=v2x F R y15 y17 ht Q hra k r a used1 U1 (z6e st a cur) (K+1) n (by omega) (by omega) h3 R1 I1 (by omega) (fun c b hcb hne hle=>by
     refine y9d (hav c b hcb hne (by omega)) h2 (fun q=>?_) (fun q=>?_)
     ·rw[q.2] at hle;omega
     ·rw[q.2,q.1] at hcb;rcases Q.pr a cur hcb with ⟨e,_⟩|⟨h,_⟩
      ·exact he e.symm
      ·omega) (fun x hx q1 q2=>by
     rw[hexs hx,hex x hx q1 q2];split<;>split<;>omega) (by omega) htF
   have hat:a≠.F t:=fun e=>by rw[e] at h1;omega
   refine⟨used2,U2,st2,?_,by rw[show K+(r+1)=K+1+r by omega];exact R2,by rw[show K+(r+1)=K+1+r by omega];exact T2,?_⟩
   ·rw[e1,cl8];exact e2
   ·rw[x2,if_neg hat,hexs (x:=.F t) htF,if_neg (show ¬Nd.F t=a from fun e=>hat e.symm)];by_cases q:Nd.F t=cur
    ·rw[if_pos q,if_pos (show cur=Nd.F t from q.symm)];omega
    ·rw[if_neg q,if_neg (show ¬cur=Nd.F t from fun e=>q e.symm)];omega
theorem j1x(F:Nat)(hF:1000000000000000000000000<=F)(R:q5i g){n:q1d}(N:v5c g fs n){bm:List (Tx×List q1b)}(hm:w8u g fs bm){K:Nat}{st:UvS}{used:List (q1b×Bool)}{U:Um}(Q:Rl (LsG g fs) (FsG g) K st used U)(hu:∀s,st.u s=0\/st.u s=1):
  ∃(m:Pm) (l:List Rn),M39 F (q9c.mk n used U bm)=some m/\BF (LsG g fs) (FsG g) (z2z g fs) (ZG g) st (v0u g fs m) (fun n=>l.idxOf (enc n))/\l.length<=1300000/\(∀c,(q3b m c).isSome=true<->c∈l)/\∀c ra,q3b m c=some ra->∃a,Vd (LsG g fs) (FsG g) a/\ra=enc a:=by
 have hc:∀s,s∈LsG g fs->0<=s.Call:=fun s hs=>z7r hs
 have hen:∀e,e∈g.Entries->e∈FsG g:=fun e he=>by
  obtain⟨f,h1,h2⟩:=q7x.1 (R.e e he);exact bk9.2 ⟨f,h1,h2⟩
 have key:∀a,a∈unG g fs->M70 F (q9c.mk n used U bm) a=some ((M70 F (q9c.mk n used U bm) a).getD [])/\∀b,b∈(M70 F (q9c.mk n used U bm) a).getD []->b∈unG g fs:=by
  intro a ha;obtain⟨a',h1,rfl⟩:=j9b.1 ha;obtain⟨r,h2,h3⟩:=w1u F (by omega) R N hm Q hu h1;rw[h2];refine⟨rfl,fun b hb=>?_⟩;obtain⟨c,h4,h5,_⟩:=(h3 b).1 hb;exact j9b.2 ⟨c,h4,h5⟩
 have hul:=w0v (fs:=fs) R;have hgr:(q9c.mk n used U bm).n.g.Entries=g.Entries:=by simp only;rw[N.gr]
 obtain⟨m,l,e,I,hcl⟩:=y4r (UN:=unG g fs) (nxt:=fun a=>(M70 F (q9c.mk n used U bm) a).getD []) F (q9c.mk n used U bm) (by omega) (by omega) key (by rw[hgr];exact R.esrt.imp fun {a b} h=>z0h h) (fun e he=>by
  rw[hgr] at he;exact j9b.2 ⟨.F e,hen e he,rfl⟩)
 rw[hgr] at I;refine⟨m,l,e,bf_ok R (fun a ha b=>?_) I hcl,by have:=I.le;omega,I.key,fun c ra h=>?_⟩
 ·obtain⟨r,h2,h3⟩:=w1u F (by omega) R N hm Q hu ha;rw[h2];exact h3 b
 ·rcases I.par c ra h with ⟨h1,f,h2,h3⟩|⟨h1,_⟩
  ·exact⟨.F f,hen f h2,by rw[h1,h3]⟩
  ·exact j9b.1 (I.sub _ h1)
theorem v0i(F:Nat)(hF:1000000000000000000000000<=F)(R:q5i g){n:q1d}(N:v5c g fs n){bm:List (Tx×List q1b)}(hm:w8u g fs bm){t:Tx}(ht:t ∉ g.Entries)(htF:t∈FsG g)(k:List (q1b×Bool)->Um->Option (List q1b×Bool×Int)):
  ∀(q:Nat) (used:List (q1b×Bool)) (U:Um) (st:UvS) (K:Nat),Rl (LsG g fs) (FsG g) K st used U->v9v (LsG g fs) (FsG g) (z2z g fs) (ZG g) t K st->0<=exs (LsG g fs) (FsG g) st (.F t)->700000 - exs (LsG g fs) (FsG g) st (.F t)<q->(K:Int)+(700001 - exs (LsG g fs) (FsG g) st (.F t))*2000000<=1000000000000000->
   ∃used' U' st' K',z8y F t n bm k q used U=k used' U'/\Rl (LsG g fs) (FsG g) K' st' used' U'/\v9v (LsG g fs) (FsG g) (z2z g fs) (ZG g) t K' st'/\
    ∃m,M39 F (q9c.mk n used' U' bm)=some m/\(q3b m (enc (.F t))).isSome=false
 |0,used,U,st,K,Q,T,h0,hq,hK=>by
  have h1:=T.le (z9h R) (fun s hs=>z5h hs) htF;have h2:=z4j (fs:=fs) R;simp at h1;omega
 |q+1,used,U,st,K,Q,T,h0,hq,hK=>by
  have h1:=T.le (z9h R) (fun s hs=>z5h hs) htF;have h2:=z4j (fs:=fs) R;simp at h1;obtain⟨m,l,e,B,hl,hkey,hra⟩:=j1x F hF R N hm Q T.1.u;rw[z8y,q9e,e,cl8,show M40 F t=some (enc (.F t)) from rfl,cl8];cases hs:(q3b m (enc (.F t))).isSome
  ·rw[if_pos (by simp)];exact⟨used,U,st,K,rfl,Q,T,m,e,hs⟩
  ·rw[if_neg (by simp),q9e];have hil:l.idxOf (enc (.F t))<l.length:=cn8 ((hkey _).1 hs);have hpt:(v0u g fs m (.F t)).isSome=true:=by rw[z8f (n:=.F t) htF];simpa using hs
   obtain⟨used1,U1,st1,e1,R1,T1,x1⟩:=v2x F R n bm ht B hra (fun m35 m36=>jn (fun(m27:List (q1b×Bool)) (m28:Um)=>z8y F t n bm k q m27 m28) (fun k26=>k26 m35 m36)) 1300001 (.F t) used U st K F (by omega) (by omega) hpt Q T.1 (by omega) (fun c a hca hne _=>by
    rcases B.pr c a hca with ⟨h,_⟩|⟨_,h,_⟩
    ·exact absurd h hne
    ·exact h) (fun x hx h1 h2=>by rw[T.2 x hx h1 h2,if_neg h2]) (ae8 _) htF
   rw[if_pos rfl] at x1;obtain⟨used2,U2,st2,K2,e2,h3⟩:=v0i F hF R N hm ht htF k q used1 U1 st1 (K+1300001) R1 T1 (by omega) (by omega) (by omega);exact⟨used2,U2,st2,K2,e1.trans e2,h3⟩
theorem z5r(F:Nat)(m:Pm)(k:List q1b->Option (List q1b×Bool×Int)):∀(l:List q1a) (acc:List q1b),acc.length+l.length<=1000000->z7y F m k l acc=k (acc++(l.map (·.site)).filter fun s=>(q3b m (enc (.A s))).isSome&&!(q3b m (enc (.B s))).isSome)
 |[],acc,h=>by simp[z7y]
 |x::l,acc,h=>by
  simp only[cj8] at h;rw[z7y];simp only[q9e];rw[show M42 F x.site=some (enc (.A x.site)) from rfl,cl8,show M43 F x.site=some (enc (.B x.site)) from rfl,cl8,bw9,ab9];cases h1:(q3b m (enc (.A x.site))).isSome
  ·rw[if_neg (by simp),z5r F m k l _ (by omega),if_neg (by simp)]
  ·rw[if_pos rfl];cases h2:(q3b m (enc (.B x.site))).isSome
   ·rw[if_pos (by simp),if_pos (by simp;omega),z5r F m k l _ (by simp;omega),if_pos (by simp)];simp
   ·rw[if_neg (by simp),z5r F m k l _ (by omega),if_neg (by simp)]
theorem v9h(F:Nat)(R:q5i g){n:q1d}(N:v5c g fs n)(m:Pm)(k:List q1b->Option (List q1b×Bool×Int)):∀(l:List q8e) (acc:List q1b),(∀x,x∈l->x∈g.Funcs)->acc.length+200*l.length<=1000000->
  z6r F n m k l acc=k (acc++((l.flatMap (LK g fs)).map (·.site)).filter fun s=>(q3b m (enc (.A s))).isSome&&!(q3b m (enc (.B s))).isSome)
 |[],acc,hl,h=>by simp[z6r]
 |x::l,acc,hl,h=>by
  simp only[cj8] at h;have hx:=hl x (by simp);have hlen:=w8h (fs:=fs) R hx;have hlk:(q3b n.links x.Name).getD []=LK g fs x:=N.l x hx;rw[z6r];simp only[q9e]
  rw[hlk,z5r F m _ _ _ (by omega),v9h F R N m k l _ (fun y hy=>hl y (cl9 _ hy)) (by
   rw[bp8];have:=ab8 (fun s=>(q3b m (enc (.A s))).isSome&&!(q3b m (enc (.B s))).isSome) ((LK g fs x).map (·.site));simp only[br9] at this;omega)]
  simp
theorem j5k(F:Nat)(t:Tx)(k:Option (List q1b×Bool×Int)):∀l:List Tx,z9y F t k l=if t∈l then some ([],false,0) else k
 |[]=>by simp[z9y]
 |x::l=>by
  rw[z9y,j5k F t k l];by_cases h:x=t
  ·subst h;simp
  ·rw[if_neg (by simpa using h)];have:t∈x::l<->t∈l:=by rw[ax8];exact⟨fun q=>q.resolve_left (fun e=>h e.symm),.inr⟩
   simp only[this]
theorem M36_t(F:Nat)(t:Tx)(hg:q3o g)(hfs:∀x,x∈fs->x.length<=maxLen)(hl:fs.length<=maxLen):M36 F g 1 fs [t]=some (j0b g fs t):=by
 have a1:=y7r F g hg;have a2:=y6q F fs hfs hl;unfold M36;rw[a1,cl8,a2,cl8];by_cases h1:chk false g=0
 ·by_cases h2:feE fs=0
  ·have hop:z4z g 1 fs=0:=by simp[z4z,h1,h2]
   have he:j0b g fs t=if (FsG g).contains t=true then 0 else 4:=by unfold j0b;rw[if_neg (by simp[hop])]
   rw[he,if_neg (by simp[h1]),if_neg (by simp[h2]),if_neg (by simp),q9e,j6q,y8q,cl8];by_cases h3:t∈FsG g
   ·rw[if_pos (show(FsG g).contains t=true by simpa using h3)];obtain⟨x,hx,e⟩:=bk9.1 h3;subst e;have:=z7c (f:=fun f:q8e=>f.Name) (j1a h1).fsrt hx;rw[this];simp;rfl
   ·rw[if_neg (show ¬(FsG g).contains t=true by simpa using h3)]
    have:(g.Funcs.find? fun x=>x.Name==t)=none:=by
     rw[af9];intro x hx q;exact h3 (bk9.2 ⟨x,hx,by simpa using q⟩)
    rw[this];simp
  ·simp[h1,h2,j0b,z4z]
 ·simp[h1,j0b,z4z]
end
section
variable{g:q4c}{fs:List Tx}
theorem y6m(F:Nat)(hF:1000000000000000000000000<=F)(t:Tx)(hg:q3o g)(hfs:∀x,x∈fs->x.length<=maxLen)(hl:fs.length<=maxLen):
  (j0b g fs t≠0->M11 F g fs t=some ([],false,j0b g fs t))/\(j0b g fs t=0->t∈g.Entries->M11 F g fs t=some ([],false,0))/\(j0b g fs t=0->t ∉ g.Entries->∃cut,Res g fs t cut/\M11 F g fs t=some (cut,true,0)):=by
 have e0:=M36_t F t hg hfs hl;refine⟨fun h=>?_,fun h ht=>?_,fun h ht=>?_⟩
 ·unfold M11;rw[e0,cl8,if_pos (by simpa using h)]
 ·unfold M11;rw[e0,cl8,if_neg (by simpa using h),q9e,j5k,if_pos ht]
 ·have hop:z4z g 1 fs=0/\t∈FsG g:=by
   unfold j0b at h;by_cases h1:z4z g 1 fs=0
   ·rw[if_neg (by simp[h1])] at h;split at h
    ·rename_i q;exact⟨h1,by simpa using q⟩
    ·simp at h
   ·rw[if_pos h1] at h;exact absurd h h1
  have R:=(z1c hop.1).1;have hfl:=R.fl;obtain⟨n,en,N⟩:=y5r F g fs R;obtain⟨bm,eb,hb⟩:=y6r F (by omega) R N;have Q0:Rl (LsG g fs) (FsG g) 0 (UvS.mk (fun _=>0) (fun _=>0) (fun _ _=>0)) [] []:=⟨fun s _=>by simp[q3b],fun a b=>by simp[un,q3b],fun a b _ _=>by cases a<;>cases b<;>simp[un,q3b,Wt]⟩
  have x0:∀x,exs (LsG g fs) (FsG g) (UvS.mk (fun _=>0) (fun _=>0) (fun _ _=>0)) x=0:=by
   intro x;cases x with
   |F f=>simp only[exs,ite_self,z3d];rfl
   |A s=>rfl
   |B s=>simp only[exs,z3d];rfl
  have T0:v9v (LsG g fs) (FsG g) (z2z g fs) (ZG g) t 0 (UvS.mk (fun _=>0) (fun _=>0) (fun _ _=>0)):=⟨⟨fun _=>.inl rfl,fun _=>by simp,fun _ _=>by simp,fun s y h=>by simp at h⟩,fun x _ _ _=>x0 x⟩;obtain⟨used,U,st,K,e1,Q,T,m,em,hm⟩:=v0i F hF R N hb ht hop.2 (fun(m20:List (q1b×Bool)) (m21:Um)=>(M39 F (q9c.mk n m20 m21 bm)).bind fun y50=>jn (fun(l53:List q1b)=>some (l53,true,0)) (fun k52=>z6r F n y50 k52 g.Funcs ([]:List q1b))) F [] [] _ 0 Q0 T0 (by rw[x0];omega) (by rw[x0];omega) (by rw[x0];omega);obtain⟨m',l,em',B,_,_,_⟩:=j1x F hF R N hb Q T.1.u;rw[em] at em';simp only[bc8] at em';subst em'
  have hpt:v0u g fs m (.F t)=none:=by
   rw[z8f (n:=.F t) hop.2];cases hq:q3b m (enc (.F t)) with
   |none=>rfl
   |some v=>rw[hq] at hm;simp at hm
  obtain⟨u,v,S,T',h1,h2,h3,h4⟩:=B.res T (z9h R) (fun s hs=>z5h hs) hpt;refine⟨(LsG g fs).filter (fun s=>(q3b m (enc (.A s))).isSome&&!(q3b m (enc (.B s))).isSome),⟨u,v,S,T',h1,h2,h3,?_⟩,?_⟩
  ·rw[<-h4];refine af8 fun s hs=>?_;rw[z8f (n:=.A s) hs,z8f (n:=.B s) hs];simp
  ·unfold M11;rw[e0,cl8,if_neg (by simpa using h),q9e,j5k,if_neg ht,en,cl8,eb,cl8];refine(q9e _ _).trans (e1.trans ?_);rw[em,cl8,q9e,v9h F R N m _ g.Funcs [] (fun _ h=>h) (by simp;omega)];rfl
theorem w7j(F:Nat)(hF:1000000000000000000000000<=F)(t:Tx)(hg:q3o g)(hfs:∀x,x∈fs->x.length<=maxLen)(hl:fs.length<=maxLen):
  ∃r:List q1b×Bool×Int,M5 F g fs t=some r/\M11 F g fs t=some r/\(r=([],false,j0b g fs t)/\(j0b g fs t≠0\/t∈g.Entries)\/∃cut,r=(cut,true,0)/\Res g fs t cut/\j0b g fs t=0/\t ∉ g.Entries):=by
 obtain⟨p1,p2,p3⟩:=y1a (g:=g) (fs:=fs) F hF t hg hfs;obtain⟨q1,q2,q3⟩:=y6m (g:=g) (fs:=fs) F hF t hg hfs hl;by_cases h:j0b g fs t=0
 ·by_cases ht:t∈g.Entries
  ·exact⟨_,p2 h ht,q2 h ht,.inl ⟨by rw[h],.inr ht⟩⟩
  ·obtain⟨c,h1,h2⟩:=p3 h ht;obtain⟨c',h3,h4⟩:=q3 h ht;have:=h1.uniq h3;subst this;exact⟨_,h2,h4,.inr ⟨c,rfl,h1,h,ht⟩⟩
 ·exact⟨_,p1 h,q1 h,.inl ⟨rfl,.inl h⟩⟩
end
theorem v5s(F:Nat)(a:List q1b)(k:Option Bool):∀(l:List q1b) (n:Nat),a.drop n=l->j2k F a k l n=k
 |[],n,_=>rfl
 |x::l,n,h=>by
  obtain⟨e,h'⟩:=dropI h;have hcast:((n:Int)+1)=((n+1:Nat):Int):=by omega
  rw[j2k,e,cl8,if_neg (by simp),hcast,v5s F a k l (n+1) h']
theorem M12_s(F:Nat)(a:List q1b):M12 F a a=some true:=by
 unfold M12;rw[if_neg (by simp),q9e,show(0:Int)=((0:Nat):Int) from rfl,v5s F a _ a 0 rfl]
theorem M14_s(F:Nat){l:List q1b}(h:l.length<=1000000):M14 F l=some l:=by
 unfold M14;refine j8d ?_ (fun h0=>?_)
 ·rw[if_neg (by simp),if_pos (by simp;omega)];rfl
 ·rw[if_pos rfl,be9.mp h0]
section
variable{g:q4c}{fs:List Tx}
theorem w5h(F:Nat)(hF:1000000000000000000000000<=F)(hg:q3o g)(hfs:∀x,x∈fs->x.length<=maxLen)(hop:z4z g 1 fs=0){t:Tx}{cut:List q1b}(H:Res g fs t cut)(hsub:cut.Sublist (LsG g fs))(hl:cut.length<=600000)(b:Bool)(z:Int)(k:Option Bool):
  ∀(tl n:Nat),n+tl=cut.length->v7m F g fs t (cut,b,z) k tl n=k
 |0,n,h=>rfl
 |tl+1,n,h=>by
  have R:=(z1c hop).1
  have h0:chk false g=0:=by
   unfold z4z at hop;split at hop
   ·rename_i q;exact absurd hop q
   ·rename_i q;simpa using q
  have hw:w64 ((n:Int)+1)=((n+1:Nat):Int):=by rw[q9r (by omega) (by omega)];omega
  have hcast:((n:Int)+1)=((n+1:Nat):Int):=by omega
  have he:cut.take n++cut.drop (n+1)=cut.eraseIdx n:=(List.eraseIdx_eq_take_drop_succ cut n).symm;have hel:(cut.eraseIdx n).length=cut.length - 1:=by rw[ag9,if_pos (by omega)]
  have hes:(cut.eraseIdx n).Sublist (LsG g fs):=(List.eraseIdx_sublist cut n).trans hsub;have hwo:=j8b F (by omega) g (cut.eraseIdx n) hg (by rw[hel];unfold maxLen;omega);rw[if_neg (by simp[v0n R h0 hes])] at hwo;obtain⟨r,e1,e2⟩:=j3o F (by omega) (WoG g (cut.eraseIdx n)) fs (ok_W _ hg) hfs (y7m hop);rw[v7m,M14_s F (by simpa using (by omega:cut.length<=1000000)),cl8,hw]
  have h13:M13 F (n:Int) ((n+1:Nat):Int) cut=some (cut.eraseIdx n):=by
   unfold M13;rw[if_pos ⟨by omega,by omega,by omega⟩,<-he];rfl
  rw[h13,cl8,hwo,cl8,e1,cl8,if_neg (by simp),e2,cl8,H.fewer R (by rw[hel];omega),if_neg (by simp),hcast];exact w5h F hF hg hfs hop H hsub hl b z k tl (n+1) (by omega)
theorem Res.sub{t:Tx}{cut:List q1b}(H:Res g fs t cut):cut.Sublist (LsG g fs):=by
 obtain⟨u,v,S,T,U,C,L,rfl⟩:=H;exact List.filter_sublist
end
theorem y2a(g:q4c)(fs:List Tx)(t:Tx)(hg:q3o g)(hfs:(∀a,a∈fs->(fun x:B8=>x.length<=maxLen) a)/\fs.length<=maxLen)(ht:t.length<=maxLen):∃F,M4 F g fs t=some true:=by
 obtain⟨F,hF,h8⟩:=z7u;refine⟨F,?_⟩;obtain⟨r,e1,e2,hr⟩:=w7j (g:=g) (fs:=fs) F hF t hg hfs.1 hfs.2;unfold M4;rw[e1,cl8,e2,cl8,if_neg (by simp),if_neg (by simp),M12_s,cl8,if_neg (by simp)];rcases hr with ⟨rfl,_⟩|⟨cut,rfl,H,herr,hne⟩
 ·rw[if_pos (by simp),h8];rfl
 ·have hop:=w2n herr;have R:=(z1c hop).1
  have h0:chk false g=0:=by
   unfold z4z at hop;split at hop
   ·rename_i q;exact absurd hop q
   ·rename_i q;simpa using q
  have hl:cut.length<=600000:=by
   have h1:=H.sub.length_le;have h2:=z4j (fs:=fs) R;simp at h1;omega
  have hwo:=j8b F (by omega) g cut hg (by unfold maxLen;omega);rw[if_neg (by simp[v0n R h0 H.sub])] at hwo;obtain⟨r,e3,e4⟩:=j3o F (by omega) (WoG g cut) fs (ok_W _ hg) hfs.1 (y7m hop);rw[if_neg (by simp),hwo,cl8,if_neg (by simp),e3,cl8,if_neg (by simp),e4,cl8,H.parted R,if_neg (by simp),q9e];refine(w5h F hF hg hfs.1 hop H H.sub hl true 0 _ _ 0 (by simp)).trans ?_;rw[h8];rfl
end Go.Proofs.YtcihpgamojpcnaaGreat
namespace Go.Proofs.YtcihpgamojpcnaaGreat
open Go Go.Pv Go.RowKit Go.Lib Go.Sort Go.Shelf
theorem y8y:w6u Tryz.prog 13:=by
 intro a w
 go_enter Tryz.func13,Tryz.ntmps13
 go_wp2
 all_goals (go_ret;exact⟨rfl,rfl⟩)
theorem y2b:(Tryz.prog.info? 41).map (fun i=>(i.zero,i.size,i.bytes))=some (some (Value.agg #[.string ⟨#[]⟩,.int .i64 0]),2,24):=by kernel_rfl
set_option maxHeartbeats 4000000 in
set_option maxRecDepth 1000000 in
theorem del13:w0i Tryz.prog 13 2:=by
 intro blk off cap n i j d w hdn h1 hH hcap hm hij hj;have mixed:Tryz.prog.follows .mixedOrders=true:=by kernel_rfl
 obtain⟨i0,hi0,hz0,hz1,hz2⟩:=info_parts y2b;by_cases heq:i=j
 ·subst heq
  have h0:Calls Tryz.prog 13 #[.slice (some ⟨blk,off,none⟩) n cap,.int .i64 i,.int .i64 i] w fun e w'=>e=.returned (.slice (some ⟨blk,off,none⟩) n cap)/\w'=w:=by
   clear hH h1
   go_enter Tryz.func13,Tryz.ntmps13
   go_wp2
   all_goals (go_ret;exact⟨rfl,rfl⟩)
  refine h0.mono ?_
  rintro e w' ⟨rfl,rfl⟩
  refine⟨by rw[Nat.sub_self,Nat.sub_zero],0,[],by simp,?_⟩;have e:(d.toList.take (i*2)++d.toList.drop (i*2)++[]).toArray=d:=by simp
  rw[e];exact(putRow_self (fun v:Value=>v) (Sort.ahead w' 0) blk off d hH).symm
 ·have hlt:i<j:=by omega
  obtain⟨news,hnews⟩:∃news,news=d.toList.drop (j*2):=⟨_,rfl⟩;have hlen:news.length=n*2 - j*2:=by rw[hnews];simp[hdn]
  have q1e:∀t,t<n*2 - j*2->news[t]? = some d[j*2+t]! := by
   intro t ht;rw[hnews,ba8,ag8,getElem!_pos d (j*2+t) (by omega),bh9 (by omega)]
  obtain⟨A,hA,hsrc⟩:∃A:Addr,(if cap=j then some (⟨blk,off,none⟩:Addr) else some ⟨blk,off+j*2,none⟩)=some A/\Hid (∀t u,news[t]? = some u->w.drew.cell? (A.add t)=some u):=by
   by_cases h:cap=j
   ·refine⟨⟨blk,off,none⟩,by simp[h],fun t u hu=>?_⟩;have h0:news.length=0:=by rw[hlen];omega
    rw[be9.1 h0] at hu;simp at hu
   ·refine⟨⟨blk,off+j*2,none⟩,by simp[h],fun t u hu=>?_⟩
    have ht:t<n*2 - j*2:=by
     have:=(bi8.1 hu).1
     rwa [hlen] at this
    rw[q1e t ht] at hu;rw[Addr.add_lit,show off+j*2+t=off+(j*2+t) by omega];exact(hH (j*2+t) (by omega)).1.trans hu
  have s1:Hid (news.length=(n - j)*2):=by rw[Nat.sub_mul];exact hlen
  have s2:Hid (∀u∈news,u.oneCell'=true):=by
   intro u hu;rw[hnews] at hu;exact h1 u (ah9 hu)
  have s3:Hid (∀t,t<news.length->(w.drew.cell? ⟨blk,off+i*2+t,none⟩).isSome=true/\w.drew.frozen? ⟨blk,off+i*2+t,none⟩=false):=by
   intro t ht;rw[hlen] at ht;rw[ah8];exact⟨by show(w.cell? _).isSome=true;rw[(hH (i*2+t) (by omega)).1];rfl,(hH (i*2+t) (by omega)).2⟩
  obtain⟨W1,hW1⟩:∃W1,W1=w.drew.setCells blk (off+i*2) news:=⟨_,rfl⟩;have hmap:news.map (fun v:Value=>v)=news:=by simp
  have hW1':W1=putRow (fun v:Value=>v) (Sort.ahead w 1) blk off (lay d (i*2) (d.toList.drop (j*2))):=by
   rw[hW1,<-hnews,<-putRow_setCells (fun v:Value=>v) (Sort.ahead w 1) blk off news d (i*2) (by omega),putRow_self (fun v:Value=>v) (Sort.ahead w 1) blk off d (holds_ahead (fun v:Value=>v) w 1 blk off d hH),hmap];rfl
  have hH1:Holds (fun v:Value=>v) W1 blk off (lay d (i*2) (d.toList.drop (j*2))):=by rw[hW1'];exact holds_putRow (fun v:Value=>v) _ blk off d _ (holds_ahead (fun v:Value=>v) w 1 blk off d hH) (lay_size _ _ _)
  obtain⟨zs,hzs⟩:∃zs,zs=(Builtin.zeroCells (Value.cells (Value.agg #[.string ⟨#[]⟩,.int .i64 0])) (n - (i+(n - j)))).toList:=⟨_,rfl⟩;have hzl:zs.length=(n - (i+(n - j)))*2:=by rw[hzs];simp[Builtin.zeroCells,Value.cells]
  have hcl:∀ty,(Builtin.clear_ #[28] ty #[.slice (some ⟨blk,off+(i+(n - j))*2,none⟩) (n - (i+(n - j))) (cap - (i+(n - j)))]).run Tryz.prog W1=.ok (.tuple #[]) (W1.setCells blk (off+(i+(n - j))*2) zs):=by
   intro ty;rw[hzs];have hzc:(Value.cells (Value.agg #[.string ⟨#[]⟩,.int .i64 0])).size=2:=rfl;refine v7t W1 28 41 ty _ Tryz.underlying28 Tryz.zeroValue41 (w5i (by kernel_rfl)) blk _ _ (by omega) (fun t ht=>?_) (fun t ht=>?_)
   ·rw[hzc] at ht;rw[show off+(i+(n - j))*2+t=off+((i+(n - j))*2+t) by omega,(hH1 _ (by rw[lay_size];omega)).1];rfl
   ·rw[hzc] at ht;rw[show off+(i+(n - j))*2+t=off+((i+(n - j))*2+t) by omega];exact(hH1 _ (by rw[lay_size];omega)).2
  have X:Aside (W1=putRow (fun v:Value=>v) (Sort.ahead w 1) blk off (lay d (i*2) (d.toList.drop (j*2)))):=hW1';have hW:Hid (W1=w.drew.setCells blk (off+i*2) news):=hW1;have hic:i<=cap:=by omega
  have hjc:j<=cap:=by omega
  clear hW1 hW1' hH1 hH q1e hnews hlen hzs
  go_enter Tryz.func13,Tryz.ntmps13
  go_wp2_with fail
  go_region_law_o (refine step_append_room rfl (.tmp 22) (.tmp 25) 28 rfl 41 i0 2 Tryz.underlying28 hi0 hz1 blk off i cap (by simp[Act.eval,Act.put]) A (n - j) (cap - j) news (by simp[Act.eval,Act.put]) s1.out hsrc.out s2.out (by omega) s3.out ?_;rw[<-hW.out])
  go_wp2
  go_ret
  refine⟨by rw[show n - (j - i)=i+(n - j) by omega];rfl,1,zs,by rw[hzl];congr 1;omega,?_⟩;have hlz:zs.length=j*2 - i*2:=by rw[hzl];omega
  have hmz:zs.map (fun v:Value=>v)=zs:=by simp
  rw[<-v3l d (i*2) (j*2) zs hlz (by omega) (by omega),<-putRow_setCells (fun v:Value=>v) _ blk off zs _ (i*2+(d.size - j*2)) (by rw[lay_size];omega),<-X.out,hmz,show i*2+(d.size - j*2)=(i+(n - j))*2 by omega]
end Go.Proofs.YtcihpgamojpcnaaGreat
