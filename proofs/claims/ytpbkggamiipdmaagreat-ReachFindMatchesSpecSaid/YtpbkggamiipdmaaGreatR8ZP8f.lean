/- Part of the proof: ZP8c, ZP8d, ZP8e, ZP8f. -/
import Derived.Test.YtpbkggamiipdmaaGreatR8ZP8b
import Derived.Test.YtpbkggamiipdmaaGreatR8Z8O
namespace Go.Proofs.YtpbkggamiipdmaaGreat
open Go Go.Pv
set_option linter.unusedVariables false
inductive Wk{α:Type}(E:α->α->Prop)(t:α):Nat->α->Prop
 |z:Wk E t 0 t
 |s {n:Nat} {x y:α} (h:E x y) (w:Wk E t n y):Wk E t (n+1) x
def Ds{α:Type}(E:α->α->Prop)(t:α)(n:Nat)(x:α):Prop:=Wk E t n x/\∀m,m<n->¬Wk E t m x
section
variable{α:Type}{E:α->α->Prop}{t:α}
theorem Ds.uniq{n m:Nat}{x:α}(h:Ds E t n x)(h':Ds E t m x):n=m:=by
 rcases Nat.lt_trichotomy n m with q|q|q
 ·exact absurd h.1 (h'.2 n q)
 ·exact q
 ·exact absurd h'.1 (h.2 m q)
theorem Wk.least{x:α}:∀{n:Nat},Wk E t n x->∃m,m<=n/\Ds E t m x:=by
 intro n
 induction n using Nat.strongRecOn with
 |ind n ih=>
  intro h
  by_cases q:∃m,m<n/\Wk E t m x
  ·obtain⟨m,hm,w⟩:=q
   obtain⟨k,hk,d⟩:=ih m hm w
   exact⟨k,by omega,d⟩
  ·exact⟨n,Nat.le_refl _,h,fun m hm w=>q ⟨m,hm,w⟩⟩
theorem Ds.zero{x:α}:Ds E t 0 x<->x=t:=by
 constructor
 ·rintro⟨h,_⟩;cases h;rfl
 ·rintro rfl;exact⟨.z,fun m h=>absurd h (Nat.not_lt_zero _)⟩
theorem Ds.succ{n:Nat}{x:α}(h:Ds E t (n+1) x):∃y,E x y/\Ds E t n y:=by
 obtain⟨w,hm⟩:=h
 cases w with
 |s e w=>
  rename_i y
  refine⟨y,e,w,fun m hlt w'=>hm (m+1) (by omega) (.s e w')⟩
theorem Ds.down{x:α}:∀{n:Nat},Ds E t n x->∀m,m<=n->∃y,Ds E t m y:=by
 intro n
 induction n generalizing x with
 |zero=>intro h m hm;obtain rfl:m=0:=(by omega);exact⟨x,h⟩
 |succ n ih=>
  intro h m hm
  by_cases q:m=n+1
  ·subst q;exact⟨x,h⟩
  ·obtain⟨y,_,d⟩:=h.succ
   exact ih d m (by omega)
end
def neg(out:List Int):Nat:=out.countP fun v=>decide (v<0)
theorem neg_set{out:List Int}{i:Nat}(hi:i<out.length)(h:out[i]<0){v:Int}(hv:0<=v):neg (out.set i v)+1=neg out:=by
 unfold neg
 rw[List.countP_set hi,if_pos (by simpa using h),if_neg (by simp;omega)]
 have:0<out.countP fun v=>decide (v<0):=List.countP_pos_iff.2 ⟨_,List.getElem_mem hi,by simpa using h⟩
 omega
def nI(l:List Nat):List Int:=l.map fun n:Nat=>(n:Int)
theorem M94_L7_ok(F:Nat)(v d:Nat)(hd:d<=100000)(k:List Int->List Int->Option (List Int)):∀(l:List Int) (out q:List Int),out[v]? = some (d:Int)->(∀x,x∈l->∃i:Nat,i<out.length/\x=(i:Int))->q.length+neg out<=100000->
  ∃out' add,M94_L7 F (v:Int) k l out q=k out' (q++nI add)/\out'.length=out.length/\add.length+neg out'=neg out/\
   (∀i:Nat,out'[i]? = (out[i]?).map fun u=>if u<0/\(i:Int)∈l then ((d+1:Nat):Int) else u)/\∀i:Nat,i∈add<->(i:Int)∈l/\∃u,out[i]? = some u/\u<0
 |[],out,q,h,_,_=>⟨out,[],by simp[M94_L7,nI],rfl,by simp,fun i=>by simp,by simp⟩
 |x::l,out,q,h,hl,hb=>by
  obtain⟨i,hi,rfl⟩:=hl x (by simp)
  have hv:v<out.length:=(List.getElem?_eq_some_iff.1 h).1
  have hvv:out[v]=(d:Int):=(List.getElem?_eq_some_iff.1 h).2
  rw[M94_L7,q1h hi,Option.bind_some]
  simp only[q3e]
  by_cases hn:out[i]<0
  ·have hc:0<neg out:=List.countP_pos_iff.2 ⟨_,List.getElem_mem hi,by simpa using hn⟩
   have hvi:i≠v:=fun e=>by subst e;omega
   rw[if_pos (by simpa using hn),q1h hv,Option.bind_some,Option.bind_some,if_pos (by simp;omega),hvv,Int.toNat_natCast]
   have hw:w64 ((d:Int)+1)=((d+1:Nat):Int):=by rw[z6b (by omega) (by omega)];omega
   rw[hw]
   have hs:=neg_set hi hn (v:=((d+1:Nat):Int)) (by omega)
   obtain⟨out',add,e,h1,h2,h3,h4⟩:=M94_L7_ok F v d hd k l (out.set i ((d+1:Nat):Int)) (q++[(i:Int)]) (by rw[List.getElem?_set,if_neg hvi];exact h) (fun x hx=>by simpa using hl x (List.mem_cons_of_mem _ hx)) (by rw[List.length_append];simp only[List.length_cons,List.length_nil];omega)
   refine⟨out',i::add,?_,by simpa using h1,by simp;omega,fun j=>?_,fun j=>?_⟩
   ·rw[e];simp[nI]
   ·rw[h3,List.getElem?_set]
    by_cases e:i=j
    ·subst e
     rw[if_pos rfl,if_pos hi,List.getElem?_eq_getElem hi,Option.map_some,Option.map_some,if_neg (by omega),if_pos ⟨hn,by simp⟩]
    ·rw[if_neg e]
     refine congrArg (fun f=>Option.map f out[j]?) (funext fun u=>?_)
     have:((j:Int)∈(i:Int)::l)<->(j:Int)∈l:=by rw[List.mem_cons];exact⟨fun q=>q.resolve_left (by omega),.inr⟩
     simp only[this]
   ·rw[List.mem_cons,h4,List.getElem?_set]
    constructor
    ·rintro(rfl|⟨q1,u,q2,q3⟩)
     ·exact⟨by simp,_,List.getElem?_eq_getElem hi,hn⟩
     ·by_cases e:i=j
      ·rw[if_pos e,if_pos (by omega)] at q2
       simp only[Option.some.injEq] at q2
       omega
      ·rw[if_neg e] at q2
       exact⟨List.mem_cons_of_mem _ q1,u,q2,q3⟩
    ·rintro⟨q1,u,q2,q3⟩
     by_cases e:i=j
     ·exact .inl e.symm
     ·rw[if_neg e]
      refine .inr ⟨(List.mem_cons.1 q1).resolve_left (by omega),u,q2,q3⟩
  ·rw[if_neg (by simpa using hn)]
   obtain⟨out',add,e,h1,h2,h3,h4⟩:=M94_L7_ok F v d hd k l out q h (fun x hx=>hl x (List.mem_cons_of_mem _ hx)) hb
   refine⟨out',add,e,h1,h2,fun j=>?_,fun j=>?_⟩
   ·rw[h3]
    by_cases e:j=i
    ·subst e
     rw[List.getElem?_eq_getElem hi,Option.map_some,Option.map_some,if_neg (fun q=>hn q.1),if_neg (fun q=>hn q.1)]
    ·refine congrArg (fun f=>Option.map f out[j]?) (funext fun u=>?_)
     have:((j:Int)∈(i:Int)::l)<->(j:Int)∈l:=by rw[List.mem_cons];exact⟨fun q=>q.resolve_left (by omega),.inr⟩
     simp only[this]
   ·rw[h4,List.mem_cons]
    constructor
    ·rintro⟨q1,q2⟩;exact⟨.inr q1,q2⟩
    ·rintro⟨q1|q1,u,q2,q3⟩
     ·obtain rfl:j=i:=by omega
      rw[List.getElem?_eq_getElem hi] at q2
      simp only[Option.some.injEq] at q2
      omega
     ·exact⟨q1,u,q2,q3⟩
structure BInv(N:Nat)(E:Nat->Nat->Prop)(t:Nat)(out:List Int)(a b:List Nat)(k:Nat):Prop where
 len:out.length=N
 val:∀i v,out[i]? = some v->v = -1\/∃n:Nat,v=(n:Int)/\n<=k+1/\Ds E t n i
 low:∀i n,n<=k->Ds E t n i->out[i]? = some (n:Int)
 nxt:∀u,Ds E t (k+1) u->out[u]? = some ((k+1:Nat):Int)\/∃v,v∈a/\E u v/\Ds E t k v
 am:∀v,v∈a->Ds E t k v
 bm:∀v,v∈b<->out[v]? = some ((k+1:Nat):Int)
theorem BInv.next{N:Nat}{E:Nat->Nat->Prop}{t:Nat}{out:List Int}{b:List Nat}{k:Nat}(I:BInv N E t out [] b k):BInv N E t out b [] (k+1) where
 len:=I.len
 val i v h:=by
  rcases I.val i v h with q|⟨n,q1,q2,q3⟩
  ·exact .inl q
  ·exact .inr ⟨n,q1,by omega,q3⟩
 low i n hn d:=by
  by_cases e:n=k+1
  ·subst e
   rcases I.nxt i d with q|⟨v,hv,_⟩
   ·exact q
   ·simp at hv
  ·exact I.low i n (by omega) d
 nxt u d:=by
  obtain⟨v,e,dv⟩:=d.succ
  rcases I.nxt v dv with q|⟨w,hw,_⟩
  ·exact .inr ⟨v,(I.bm v).2 q,e,dv⟩
  ·simp at hw
 am v hv:=by
  rcases I.val v _ ((I.bm v).1 hv) with q|⟨n,q1,q2,q3⟩
  ·omega
  ·obtain rfl:n=k+1:=by omega
   exact q3
 bm v:=by
  constructor
  ·intro h;simp at h
  ·intro h
   rcases I.val v _ h with q|⟨n,q1,q2,q3⟩<;>omega
theorem BInv.done{N:Nat}{E:Nat->Nat->Prop}{t:Nat}{out:List Int}{k:Nat}(I:BInv N E t out [] [] k)(i:Nat)(h:i<out.length):(∃n:Nat,out[i]=(n:Int)/\n<=k+1/\Ds E t n i)\/(out[i] = -1/\∀n,¬Wk E t n i):=by
 rcases I.val i _ (List.getElem?_eq_getElem h) with q|⟨n,q1,q2,q3⟩
 ·refine .inr ⟨q,fun n w=>?_⟩
  obtain⟨m,_,d⟩:=w.least
  by_cases hm:m<=k
  ·have:=I.low i m hm d
   rw[List.getElem?_eq_getElem h] at this
   simp only[Option.some.injEq] at this
   omega
  ·obtain⟨y,dy⟩:=d.down (k+1) (by omega)
   rcases I.nxt y dy with p|⟨v,hv,_⟩
   ·have:=(I.bm y).2 p;simp at this
   ·simp at hv
 ·exact .inl ⟨n,q1,q2,q3⟩
theorem BInv.step{N:Nat}{E:Nat->Nat->Prop}{t:Nat}{out out':List Int}{v:Nat}{a b add:List Nat}{k:Nat}{r:List Int}(I:BInv N E t out (v::a) b k)(hr:∀x:Int,x∈r<->∃i:Nat,x=(i:Int)/\E i v)(hE:∀i j,E i j->i<N)
  (h1:out'.length=out.length) (h3:∀i:Nat,out'[i]? = (out[i]?).map fun u=>if u<0/\(i:Int)∈r then ((k+1:Nat):Int) else u) (h4:∀i:Nat,i∈add<->(i:Int)∈r/\∃u,out[i]? = some u/\u<0):BInv N E t out' a (b++add) k:=by
 have hmem:∀i:Nat,(i:Int)∈r<->E i v:=fun i=>by
  rw[hr]
  exact⟨fun⟨j,e,q⟩=>by obtain rfl:i=j:=(by omega);exact q,fun q=>⟨i,rfl,q⟩⟩
 have hdv:=I.am v (by simp)
 have hkeep:∀i:Nat,∀n:Nat,out[i]? = some (n:Int)->out'[i]? = some (n:Int):=fun i n h=>by
  rw[h3,h,Option.map_some,if_neg (by omega)]
 have hset:∀i:Nat,E i v->∀u,out[i]? = some u->u<0->Ds E t (k+1) i:=fun i e u hu hn=>by
  refine⟨.s e hdv.1,fun m hm w=>?_⟩
  obtain⟨n,hn2,d⟩:=w.least
  have:=I.low i n (by omega) d
  rw[hu] at this
  simp only[Option.some.injEq] at this
  omega
 refine⟨h1.trans I.len,fun i w h=>?_,fun i n hn d=>hkeep i n (I.low i n hn d),fun u d=>?_,fun x hx=>I.am x (List.mem_cons_of_mem _ hx),fun x=>?_⟩
 ·rw[h3] at h
  obtain⟨u,hu,e⟩:=Option.map_eq_some_iff.1 h
  split at e
  ·rename_i hc
   exact .inr ⟨k+1,e.symm,Nat.le_refl _,hset i ((hmem i).1 hc.2) u hu hc.1⟩
  ·subst e;exact I.val i u hu
 ·rcases I.nxt u d with q|⟨w,hw,e,dw⟩
  ·exact .inl (hkeep u (k+1) q)
  ·rcases List.mem_cons.1 hw with rfl|hw
   ·left
    have hu:u<out.length:=by rw[I.len];exact hE u w e
    rw[h3,List.getElem?_eq_getElem hu,Option.map_some]
    by_cases hn:out[u]<0
    ·rw[if_pos ⟨hn,(hmem u).2 e⟩]
    ·rw[if_neg (fun q=>hn q.1)]
     rcases I.val u _ (List.getElem?_eq_getElem hu) with q|⟨n,q1,q2,q3⟩
     ·omega
     ·rw[q1,q3.uniq d]
   ·exact .inr ⟨w,hw,e,dw⟩
 ·rw[List.mem_append,I.bm,h4,h3]
  constructor
  ·rintro(q|⟨q1,u,q2,q3⟩)
   ·rw[q,Option.map_some,if_neg (by omega)]
   ·rw[q2,Option.map_some,if_pos ⟨q3,q1⟩]
  ·intro h
   obtain⟨u,hu,e⟩:=Option.map_eq_some_iff.1 h
   split at e
   ·rename_i hc;exact .inr ⟨hc.2,u,hu,hc.1⟩
   ·subst e;exact .inl hu
theorem M94_L6_ok(F:Nat){N:Nat}{E:Nat->Nat->Prop}{t:Nat}(hN:N<=3000)(hE:∀i j,E i j->i<N)(rows:List (List Int))(hlen:rows.length=N)(hrow:∀v r,rows[v]? = some r->∀x:Int,x∈r<->∃i:Nat,x=(i:Int)/\E i v)(kk:List Int->Option (List Int))(hdN:∀i n,Ds E t n i->i<N):
  ∀(n:Nat) (out:List Int) (a b:List Nat) (k:Nat),BInv N E t out a b k->a.length+b.length+neg out<n->k+(a.length+b.length+neg out)<=N->(a=[]->k+1+(a.length+b.length+neg out)<=N)->
  ∃out',z5d F rows kk n out (nI (a++b))=kk out'/\out'.length=N/\∀i (h:i<out'.length),(∃n:Nat,out'[i]=(n:Int)/\n<=3001/\Ds E t n i)\/(out'[i] = -1/\∀n,¬Wk E t n i)
 |0,out,a,b,k,I,hn,_,_=>absurd hn (Nat.not_lt_zero _)
 |n+1,out,a0,b0,k0,I0,hn0,h10,h20=>by
  -- what is next, and its level
  by_cases he:a0=[]/\b0=[]
  ·obtain⟨rfl,rfl⟩:=he
   exact⟨out,by rw[z5d,if_neg (by simp[nI])],I0.len,fun i h=>(I0.done i h).imp (fun⟨n,q1,q2,q3⟩=>⟨n,q1,by omega,q3⟩) id⟩
  ·have key:∃v a b k,a0++b0=v::(a++b)/\BInv N E t out (v::a) b k/\a0.length+b0.length=a.length+b.length+1/\k+(a.length+b.length+1+neg out)<=N:=by
    cases a0 with
    |nil=>
     cases b0 with
     |nil=>exact absurd ⟨rfl,rfl⟩ he
     |cons v b=>
      have:=h20 rfl
      simp only[List.length_cons,List.length_nil] at this
      exact⟨v,b,[],k0+1,by simp,I0.next,by simp,by simp;omega⟩
    |cons v a=>
     simp only[List.length_cons] at h10
     exact⟨v,a,b0,k0,by simp,I0,by simp;omega,by omega⟩
   obtain⟨v,a,b,k,e1,I,e2,h1⟩:=key
   have hdv:=I.am v (by simp)
   have hv:v<N:=hdN v k hdv
   have hv':v<rows.length:=by rw[hlen];exact hv
   have hr:=hrow v rows[v] (List.getElem?_eq_getElem hv')
   rw[e1,z5d,if_pos (by simp[nI];omega)]
   simp only[q3e]
   have i0:idx (nI (v::(a++b))) 0=some (v:Int):=q1h (xs:=nI (v::(a++b))) (j:=0) (by simp[nI])
   rw[i0,Option.bind_some,if_pos (by simp[nI]),q1h hv',Option.bind_some]
   have hdrop:(nI (v::(a++b))).drop 1=nI (a++b):=by simp[nI]
   rw[hdrop]
   obtain⟨out',add,e,g1,g2,g3,g4⟩:=M94_L7_ok F v k (by omega) (fun l95 l96=>z5d F rows kk n l95 l96) rows[v] out (nI (a++b)) (I.low v k (Nat.le_refl _) hdv) (fun x hx=>by
    obtain⟨i,rfl,q⟩:=(hr x).1 hx
    exact⟨i,by rw[I.len];exact hE i v q,rfl⟩) (by simp[nI];omega)
   rw[e]
   have I2:=I.step hr hE g1 g3 g4
   have hq:nI (a++b)++nI add=nI (a++(b++add)):=by simp[nI]
   rw[hq]
   exact M94_L6_ok F hN hE rows hlen hrow kk hdN n out' a (b++add) k I2 (by simp;omega) (by simp;omega) (fun _=>by simp;omega)
theorem M94_L5_ok(F:Nat)(k:List Int->Option (List Int)):∀(m n:Nat) (l:List Int),n+m=l.length->(∀i,i<n->l[i]? = some (-1))->z0p F k m (n:Int) l=k (List.replicate l.length (-1))
 |0,n,l,h,hl=>by
  rw[z0p]
  refine congrArg k (List.ext_getElem? fun i=>?_)
  by_cases hi:i<l.length
  ·rw[hl i (by omega),List.getElem?_replicate,if_pos hi]
  ·rw[List.getElem?_eq_none (by omega),List.getElem?_eq_none (by simp;omega)]
 |m+1,n,l,h,hl=>by
  have hn:n<l.length:=by omega
  rw[z0p,q1h hn,Option.bind_some,Int.toNat_natCast,show(n:Int)+1=((n+1:Nat):Int) by omega,M94_L5_ok F k m (n+1) _ (by simp;omega) fun i hi=>?_]
  ·simp
  ·rw[List.getElem?_set]
   by_cases e:n=i
   ·rw[if_pos e,if_pos hn]
   ·rw[if_neg e];exact hl i (by omega)
section
variable{g:q3c}{how:Int}{fs:List Tx}{sp:q2c}
def Ei(g:q3c)(how:Int)(fs:List Tx)(i j:Nat):Prop:=∃hj:j<g.Funcs.length,∃hi:i<g.Funcs.length,Ed g how fs (g.Funcs[i]).Name (g.Funcs[j]).Name
def WaysOk(g:q3c)(how:Int)(fs:List Tx)(t:Nat)(d:List Int):Prop:=d.length=g.Funcs.length/\∀i (h:i<d.length),(∃n:Nat,d[i]=(n:Int)/\n<=3001/\Ds (Ei g how fs) t n i)\/(d[i] = -1/\∀n,¬Wk (Ei g how fs) t n i)
theorem M94_ok(F:Nat)(hF:10000<=F)(R:q5g g)(hh:how=1\/how=2)(S:SpOk g how fs sp){t:Nat}(ht:t<g.Funcs.length):∃d,M94 F (wOf g how fs) sp (t:Int)=some d/\WaysOk g how fs t d:=by
 have hfl:=R.fl
 have hwg:(wOf g how fs).g=g:=rfl
 unfold M94
 have c2:0<=((g.Funcs.length:Nat):Int)/\((8:Nat):Int)*((g.Funcs.length:Nat):Int)<=140737488355328/\((g.Funcs.length:Nat):Int)<=140737488355328:=by omega
 rw[hwg,if_pos (by omega)]
 simp only[q3e,if_pos c2]
 have hrep:RBk g.Funcs.length 0 (fun _ _=>False) (List.replicate ((g.Funcs.length:Nat):Int).toNat ([]:List Int)):=by
  refine⟨by simp,fun v r h=>?_⟩
  rw[List.getElem?_replicate] at h
  split at h
  ·simp only[Option.some.injEq] at h;subst h;simp
  ·simp at h
 obtain⟨rows,e1,h1⟩:=M94_L1_ok F (by omega) R hh S (fun l6=>z0p F (fun l68=>(idx l68 (t:Int)).bind fun x77=>z5d F l6 (fun l80=>some l80) F (l68.set (t:Int).toNat 0) [(t:Int)]) ((((List.replicate ((g.Funcs.length:Nat):Int).toNat (0:Int)).length:Nat):Int).toNat) 0 (List.replicate ((g.Funcs.length:Nat):Int).toNat (0:Int))) g.Funcs 0 _ 0 (fun _ _=>False) rfl hrep (by omega)
 have e1':=e1
 rw[show((0:Nat):Int)=0 from rfl] at e1'
 rw[e1']
 have e2:=M94_L5_ok F (fun l68=>(idx l68 (t:Int)).bind fun x77=>z5d F rows (fun l80=>some l80) F (l68.set (t:Int).toNat 0) [(t:Int)]) ((((List.replicate ((g.Funcs.length:Nat):Int).toNat (0:Int)).length:Nat):Int).toNat) 0 (List.replicate ((g.Funcs.length:Nat):Int).toNat (0:Int)) (by simp) (fun i hi=>absurd hi (Nat.not_lt_zero _))
 rw[show((0:Nat):Int)=0 from rfl] at e2
 rw[e2]
 have hl:(List.replicate (List.replicate ((g.Funcs.length:Nat):Int).toNat (0:Int)).length (-1:Int))=List.replicate g.Funcs.length (-1):=by simp
 rw[hl,q1h (by simpa using ht),Option.bind_some,Int.toNat_natCast]
 have hrow:∀v r,rows[v]? = some r->∀x:Int,x∈r<->∃i:Nat,x=(i:Int)/\Ei g how fs i v:=fun v r hr x=>by
  rw[(h1.row v r hr).2]
  constructor
  ·rintro⟨i,e,q|⟨hv,hi,_,q⟩⟩
   ·exact q.elim
   ·exact⟨i,e,hv,hi,q⟩
  ·rintro⟨i,e,hv,hi,q⟩
   exact⟨i,e,.inr ⟨hv,hi,Nat.zero_le _,q⟩⟩
 have hneg:neg ((List.replicate g.Funcs.length (-1)).set t 0)+1=g.Funcs.length:=by
  rw[neg_set (by simpa using ht) (by simp) (by omega)]
  unfold neg
  rw[List.countP_replicate,if_pos (by simp)]
 have q5d:∀i:Nat,((List.replicate g.Funcs.length (-1:Int)).set t 0)[i]? = if i=t then some 0 else if i<g.Funcs.length then some (-1) else none:=fun i=>by
  rw[List.getElem?_set,List.getElem?_replicate]
  by_cases e:t=i
  ·rw[if_pos e,if_pos e.symm,if_pos (by simpa using ht)]
  ·rw[if_neg e,if_neg (Ne.symm e)]
 have hE1:∀i j,Ei g how fs i j->i<g.Funcs.length:=fun i j ⟨_,h,_⟩=>h
 have hdN:∀i n,Ds (Ei g how fs) t n i->i<g.Funcs.length:=by
  rintro i n ⟨w,_⟩
  cases w with
  |z=>exact ht
  |s e _=>exact hE1 _ _ e
 have I:BInv g.Funcs.length (Ei g how fs) t ((List.replicate g.Funcs.length (-1:Int)).set t 0) [t] [] 0:=by
  refine⟨by simp,fun i v h=>?_,fun i n hn d=>?_,fun u d=>?_,fun v hv=>?_,fun v=>?_⟩
  ·rw[q5d] at h
   split at h
   ·rename_i e
    simp only[Option.some.injEq] at h
    exact .inr ⟨0,h.symm,by omega,Ds.zero.2 e⟩
   ·split at h
    ·simp only[Option.some.injEq] at h;exact .inl h.symm
    ·simp at h
  ·obtain rfl:n=0:=by omega
   rw[q5d,if_pos (Ds.zero.1 d)];rfl
  ·obtain⟨y,e,dy⟩:=d.succ
   exact .inr ⟨y,by rw[Ds.zero.1 dy];simp,e,dy⟩
  ·simp only[List.mem_singleton] at hv;exact Ds.zero.2 hv
  ·rw[q5d]
   constructor
   ·intro h;simp at h
   ·intro h
    split at h
    ·simp at h
    ·split at h<;>simp at h
 obtain⟨d,e3,h3,h4⟩:=M94_L6_ok F R.fl hE1 rows h1.len hrow (fun l80=>some l80) hdN F ((List.replicate g.Funcs.length (-1:Int)).set t 0) [t] [] 0 I (by simp;omega) (by simp;omega) (by simp)
 exact⟨d,e3,h3,h4⟩
end
theorem mget_atK{α:Type}(k:Tx):∀l:List (Tx×α),q8b l k=((atK l k).head?).map (·.2)
 |[]=>by simp[q8b,atK]
 |p::l=>by
  unfold atK
  rw[List.filter_cons]
  simp only[q8b]
  by_cases h:p.1=k
  ·simp[h]
  ·rw[if_neg h,if_neg (by simpa using h),mget_atK k l];rfl
theorem mget_canon{α:Type}(l:List (Tx×α))(k:Tx):q8b (q8l l) k=q8b l k:=by rw[mget_atK,mget_atK,z1d]
theorem mget_insV(n:Int)(x:Tx):∀(l:List Tx) (m:List (Tx×Int)),q8b (insV n m l) x=if x∈l then some n else q8b m x
 |[],m=>by simp[insV]
 |y::l,m=>by
  rw[insV,mget_insV n x l,mget_canon,q9i]
  by_cases h:x∈l
  ·rw[if_pos h,if_pos (List.mem_cons_of_mem _ h)]
  ·rw[if_neg h]
   by_cases e:y=x
   ·rw[if_pos e,if_pos (by rw[e];simp)]
   ·rw[if_neg e,if_neg (fun q=>(List.mem_cons.1 q).elim (fun q=>e q.symm) h)]
theorem insV_srt(n:Int):∀(l:List Tx) (m:List (Tx×Int)),(m.map (·.1)).Pairwise (fun a b=>Op.bytesLess a b=true)->((insV n m l).map (·.1)).Pairwise (fun a b=>Op.bytesLess a b=true)
 |[],m,h=>h
 |y::l,m,h=>insV_srt n l _ (ins_srt y n h)
section
variable{g:q3c}{how:Int}{fs:List Tx}{n:q2b}{s:q4a}
theorem cnt_iff(X:z3b g how fs s)(a:q3a):cntA how s a=true<->cnt g how fs a:=by
 rw[cntA_iff how s a X.m]
 unfold cnt
 rw[X.hm]
theorem lks_ex(on:Tx->Bool)(nm:Tx)(p:q3a->Bool):∀(cs:List q8c) (k:Int),((lks g on nm k cs).any fun l=>l.aims.any p)=true<->∃c,c∈cs/\on c.Feature=true/\∃a,a∈q5j g c/\p a=true
 |[],k=>by simp[lks]
 |c::cs,k=>by
  rw[lks]
  by_cases ho:on c.Feature=true
  ·rw[if_pos ho,List.any_cons,Bool.or_eq_true,lks_ex on nm p cs]
   simp only[List.any_eq_true,List.mem_cons]
   constructor
   ·rintro(⟨a,q⟩|⟨c',q1,q2⟩)
    ·exact⟨c,.inl rfl,ho,a,q⟩
    ·exact⟨c',.inr q1,q2⟩
   ·rintro⟨c',rfl|q1,q2,q3⟩
    ·exact .inl q3
    ·exact .inr ⟨c',q1,q2,q3⟩
  ·rw[if_neg ho,lks_ex on nm p cs]
   simp only[List.mem_cons]
   constructor
   ·rintro⟨c',q1,q2⟩;exact⟨c',.inr q1,q2⟩
   ·rintro⟨c',rfl|q1,q2,q3⟩
    ·exact absurd q2 ho
    ·exact⟨c',q1,q2,q3⟩
structure AInv(g:q3c)(how:Int)(fs:List Tx)(T:Tx)(d:Nat)(m:List (Tx×Int)):Prop where
 srt:(m.map (·.1)).Pairwise (fun a b=>Op.bytesLess a b=true)
 val:∀x v,q8b m x=some v<->∃k:Nat,v=(k:Int)/\k<d/\Ds (Ed g how fs) T k x
theorem AInv.new{T:Tx}(R:q5g g)(N:NetOk g fs n)(X:z3b g how fs s){d:Nat}(hd:d+1<=100000){m:List (Tx×Int)}(I:AInv g how fs T (d+1) m)(x:Tx):x∈z1i n how s ((d+1:Nat):Int) m s.reached<->Ds (Ed g how fs) T (d+1) x:=by
 have hw:w64 (((d+1:Nat):Int) - 1)=(d:Int):=by rw[z6b (by omega) (by omega)];omega
 have hnear:∀a:q3a,nearA how s ((d+1:Nat):Int) m a=true<->cnt g how fs a/\Ds (Ed g how fs) T d a.to:=fun a=>by
  unfold nearA
  rw[hw,Bool.and_eq_true,Bool.and_eq_true,cnt_iff X]
  constructor
  ·rintro⟨⟨q1,q2⟩,q3⟩
   refine⟨q3,?_⟩
   obtain⟨v,hv⟩:=Option.isSome_iff_exists.1 q1
   rw[hv] at q2
   obtain⟨k,e,_,dk⟩:=(I.val _ _).1 hv
   have:v=(d:Int):=by simpa using q2
   obtain rfl:k=d:=by omega
   exact dk
  ·rintro⟨q3,dk⟩
   have:=(I.val a.to (d:Int)).2 ⟨d,rfl,by omega,dk⟩
   rw[this]
   exact⟨⟨rfl,by simp⟩,q3⟩
 unfold z1i
 simp only[List.mem_map,List.mem_filter,Bool.and_eq_true,Bool.not_eq_true']
 constructor
 ·rintro⟨e,⟨he,h1,h2⟩,rfl⟩
  have hr:RN g how (onF fs) false e.1:=(X.hr e.1).1 (List.mem_map_of_mem he)
  obtain⟨i,hi,hie⟩:=q9q (hr.names R)
  have hl:z9m n e.1=lks g (onF fs) e.1 0 (g.Funcs[i]).Calls:=by rw[<-hie];exact N.l _ (List.getElem_mem hi)
  unfold nearL at h2
  rw[hl,lks_ex] at h2
  obtain⟨c,hc,ho,a,ha,hn⟩:=h2
  obtain⟨hcn,dk⟩:=(hnear a).1 hn
  refine⟨.s ⟨hr,_,List.getElem_mem hi,hie,c,hc,ho,a,ha,hcn,rfl⟩ dk.1,fun k hk w=>?_⟩
  obtain⟨k',hk',dk'⟩:=w.least
  rw[(I.val e.1 (k':Int)).2 ⟨k',rfl,by omega,dk'⟩] at h1
  simp at h1
 ·intro h
  obtain⟨y,⟨hr,f,hf,hfe,c,hc,ho,a,ha,hcn,rfl⟩,dy⟩:=h.succ
  have hm:=(X.hr x).2 hr
  obtain⟨e,he,hex⟩:=List.mem_map.1 hm
  have hl:z9m n x=lks g (onF fs) x 0 f.Calls:=by rw[<-hfe];exact N.l _ hf
  refine⟨e,⟨he,?_,?_⟩,hex⟩
  ·rw[hex]
   cases hg:q8b m x with
   |none=>rfl
   |some v=>
    obtain⟨k,_,hk,dk⟩:=(I.val x v).1 hg
    have:=dk.uniq h
    omega
  ·unfold nearL
   rw[hex,hl,lks_ex]
   exact⟨c,hc,ho,a,ha,(hnear a).2 ⟨hcn,dy⟩⟩
theorem AInv.names{T:Tx}(R:q5g g)(hT:q8s g T=true){d:Nat}{m:List (Tx×Int)}(I:AInv g how fs T d m):m.length<=3000:=by
 have:=List.Nodup.length_le_of_subset (q3w I.srt) (l₂:=g.Funcs.map q5e.Name) (fun x hx=>by
  obtain⟨v,hv⟩:=Option.isSome_iff_exists.1 ((z7g m x).2 hx)
  obtain⟨k,_,_,dk⟩:=(I.val x v).1 hv
  cases dk.1 with
  |z=>obtain⟨i,hi,rfl⟩:=q9q hT;exact List.mem_map_of_mem (List.getElem_mem hi)
  |s e _=>
   obtain⟨_,f,hf,rfl,_⟩:=e
   exact List.mem_map_of_mem hf)
 simp only[List.length_map] at this
 have:=R.fl
 omega
def AwayOk(g:q3c)(how:Int)(fs:List Tx)(T:Tx)(m:List (Tx×Int)):Prop:=∀x v,q8b m x=some v<->∃k:Nat,v=(k:Int)/\Ds (Ed g how fs) T k x
theorem away_loop(F:Nat)(R:q5g g)(N:NetOk g fs n)(X:z3b g how fs s){T:Tx}(hT:q8s g T=true):∀(q d:Nat) (m:List (Tx×Int)),AInv g how fs T (d+1) m->d+1<=m.length->3001 - m.length<q->
  ∃r,z7l F n how s q ((d+1:Nat):Int) m=some r/\AwayOk g how fs T r
 |0,d,m,I,_,h=>absurd h (Nat.not_lt_zero _)
 |q+1,d,m,I,hd,h=>by
  have hm:=I.names R hT
  have hrl:s.reached.length<=3000:=by
   have:=key_len X.r (l:=g.Funcs.map q5e.Name) (fun x hx=>by
    obtain⟨i,hi,rfl⟩:=q9q (((X.hr x).1 hx).names R)
    exact List.mem_map_of_mem (List.getElem_mem hi))
   simp only[List.length_map] at this
   have:=R.fl
   omega
  have hnew:=I.new R N X (by omega)
  have hnl:(z1i n how s ((d+1:Nat):Int) m s.reached).length<=3000:=by
   unfold z1i
   rw[List.length_map]
   exact Nat.le_trans (List.length_filter_le _ _) hrl
  rw[z7l,q3e,q5u,if_pos (.inr (by simp only[List.length_nil];omega))]
  simp only[List.length_nil,Nat.zero_add,List.nil_append]
  by_cases h0:(z1i n how s ((d+1:Nat):Int) m s.reached).length=0
  ·rw[if_pos (by rw[h0];rfl)]
   have hnil:=List.length_eq_zero_iff.1 h0
   refine⟨m,rfl,fun x v=>?_⟩
   rw[I.val]
   constructor
   ·rintro⟨k,e,_,dk⟩;exact⟨k,e,dk⟩
   ·rintro⟨k,e,dk⟩
    refine⟨k,e,?_,dk⟩
    apply Classical.byContradiction
    intro hk
    obtain⟨y,dy⟩:=dk.down (d+1) (by omega)
    have:=(hnew y).2 dy
    rw[hnil] at this
    simp at this
  ·rw[if_neg (by rw[beq_iff_eq];omega)]
   have hw:w64 (((d+1:Nat):Int)+1)=((d+1+1:Nat):Int):=by rw[z6b (by omega) (by omega)];omega
   rw[hw]
   have I2:AInv g how fs T (d+1+1) (insV ((d+1:Nat):Int) m (z1i n how s ((d+1:Nat):Int) m s.reached)):=by
    refine⟨insV_srt _ _ _ I.srt,fun x v=>?_⟩
    rw[mget_insV]
    by_cases hx:x∈z1i n how s ((d+1:Nat):Int) m s.reached
    ·have dx:=(hnew x).1 hx
     rw[if_pos hx]
     constructor
     ·intro e;simp only[Option.some.injEq] at e;exact⟨d+1,e.symm,by omega,dx⟩
     ·rintro⟨k,e,_,dk⟩
      rw[e,dk.uniq dx]
    ·rw[if_neg hx,I.val]
     constructor
     ·rintro⟨k,e,hk,dk⟩;exact⟨k,e,by omega,dk⟩
     ·rintro⟨k,e,hk,dk⟩
      refine⟨k,e,?_,dk⟩
      apply Classical.byContradiction
      intro hk2
      obtain rfl:k=d+1:=by omega
      exact hx ((hnew x).2 dk)
   have hgrow:m.length+1<=(insV ((d+1:Nat):Int) m (z1i n how s ((d+1:Nat):Int) m s.reached)).length:=by
    obtain⟨x,hx⟩:=List.exists_mem_of_length_pos (by omega:0<(z1i n how s ((d+1:Nat):Int) m s.reached).length)
    have dx:=(hnew x).1 hx
    have hxm:x ∉ m.map (·.1):=fun q=>by
     obtain⟨v,hv⟩:=Option.isSome_iff_exists.1 ((z7g m x).2 q)
     obtain⟨k,_,hk,dk⟩:=(I.val x v).1 hv
     have:=dk.uniq dx
     omega
    have:=List.Nodup.length_le_of_subset (l₁:=x::m.map (·.1)) (l₂:=(insV ((d+1:Nat):Int) m (z1i n how s ((d+1:Nat):Int) m s.reached)).map (·.1)) (List.nodup_cons.2 ⟨hxm,q3w I.srt⟩) (fun y hy=>by
     rw[<-z7g,mget_insV]
     split
     ·rfl
     ·rename_i hn
      rcases List.mem_cons.1 hy with rfl|hy
      ·exact absurd hx hn
      ·exact(z7g m y).2 hy)
    simpa using this
   exact away_loop F R N X hT q (d+1) _ I2 (by omega) (by have:=I2.names R hT;omega)
theorem M103_ok(F:Nat)(hF:10000<=F)(R:q5g g)(N:NetOk g fs n)(X:z3b g how fs s){T:Tx}(hT:q8s g T=true):∃m,M103 F n how s T=some m/\AwayOk g how fs T m:=by
 unfold M103
 have I:AInv g how fs T (0+1) (q7f [] T 0):=by
  refine⟨by simp[q7f],fun x v=>?_⟩
  rw[q9i]
  constructor
  ·intro h
   split at h
   ·rename_i e
    simp only[Option.some.injEq] at h
    exact⟨0,h.symm,by omega,Ds.zero.2 e.symm⟩
   ·simp[q8b] at h
  ·rintro⟨k,e,hk,dk⟩
   obtain rfl:k=0:=by omega
   rw[if_pos (Ds.zero.1 dk).symm,e];rfl
 exact away_loop F R N X hT F 0 _ I (by simp[q7f]) (by omega)
theorem name_inj(R:q5g g){i j:Nat}(hi:i<g.Funcs.length)(hj:j<g.Funcs.length)(h:(g.Funcs[i]).Name=(g.Funcs[j]).Name):i=j:=by
 have h1:=q4s R 0 [] hi
 rw[h,q4s R 0 [] hj] at h1
 omega
theorem ed_fs(R:q5g g){x y:Tx}(h:Ed g how fs x y):q8s g y=true:=by
 obtain⟨_,f,hf,_,c,hc,_,a,ha,_,rfl⟩:=h
 exact q5t R hf hc ha
theorem wk_in{t:Nat}{ht:t<g.Funcs.length}{n i:Nat}(h:Wk (Ei g how fs) t n i):∀hi:i<g.Funcs.length,Wk (Ed g how fs) (g.Funcs[t]).Name n (g.Funcs[i]).Name:=by
 induction h with
 |z=>intro hi;exact .z
 |s e _ ih=>intro hi;obtain⟨hj,hi',e⟩:=e;exact .s e (ih hj)
theorem wk_out(R:q5g g){t:Nat}{ht:t<g.Funcs.length}{n:Nat}{x:Tx}(h:Wk (Ed g how fs) (g.Funcs[t]).Name n x):∀i (hi:i<g.Funcs.length),(g.Funcs[i]).Name=x->Wk (Ei g how fs) t n i:=by
 induction h with
 |z=>intro i hi e;rw[name_inj R hi ht e];exact .z
 |s e _ ih=>
  rintro i hi rfl
  obtain⟨j,hj,rfl⟩:=q9q (ed_fs R e)
  exact .s ⟨hj,hi,e⟩ (ih j hj rfl)
theorem wk_iff(R:q5g g){t:Nat}(ht:t<g.Funcs.length){n i:Nat}(hi:i<g.Funcs.length):Wk (Ei g how fs) t n i<->Wk (Ed g how fs) (g.Funcs[t]).Name n (g.Funcs[i]).Name:=
 ⟨fun h=>wk_in (ht:=ht) h hi,fun h=>wk_out (ht:=ht) R h i hi rfl⟩
theorem ds_iff(R:q5g g){t:Nat}(ht:t<g.Funcs.length){n i:Nat}(hi:i<g.Funcs.length):Ds (Ei g how fs) t n i<->Ds (Ed g how fs) (g.Funcs[t]).Name n (g.Funcs[i]).Name:=by
 unfold Ds
 rw[wk_iff R ht hi]
 refine and_congr Iff.rfl (forall_congr' fun m=>imp_congr Iff.rfl ?_)
 rw[wk_iff R ht hi]
theorem ways_at(R:q5g g){t:Nat}(ht:t<g.Funcs.length){d:List Int}(W:WaysOk g how fs t d){i:Nat}(hi:i<g.Funcs.length):
  ∃v,d[i]? = some v/\((∃n:Nat,v=(n:Int)/\n<=3001/\Ds (Ed g how fs) (g.Funcs[t]).Name n (g.Funcs[i]).Name)\/(v = -1/\∀n,¬Ds (Ed g how fs) (g.Funcs[t]).Name n (g.Funcs[i]).Name)):=by
 have hi':i<d.length:=by rw[W.1];exact hi
 refine⟨d[i],List.getElem?_eq_getElem hi',?_⟩
 rcases W.2 i hi' with ⟨n,e,q0,q⟩|⟨e,q⟩
 ·exact .inl ⟨n,e,q0,(ds_iff R ht hi).1 q⟩
 ·exact .inr ⟨e,fun n h=>q n ((ds_iff R ht hi).2 h).1⟩
end
theorem idx_get{α:Type}{l:List α}{i:Nat}{x:α}(h:l[i]? = some x):idx l (i:Int)=some x:=by
 obtain⟨hi,e⟩:=List.getElem?_eq_some_iff.1 h
 rw[q1h hi,e]
section
variable{g:q3c}{how:Int}{fs:List Tx}{sp:q2c}{n:q2b}{s:q4a}{t:Nat}{d:List Int}{m:List (Tx×Int)}
theorem fname_ne(R:q5g g){f:q5e}(hf:f∈g.Funcs):f.Name≠[]:=by
 intro e
 have:=(R.f f hf).nam
 rw[e] at this;simp[nm] at this
structure Wys(g:q3c)(how:Int)(fs:List Tx)(t:Nat)(d:List Int)(m:List (Tx×Int)):Prop where
 R:q5g g
 ht:t<g.Funcs.length
 w:WaysOk g how fs t d
 a:AwayOk g how fs (g.Funcs[t]).Name m
abbrev DN8(g:q3c)(how:Int)(fs:List Tx)(t:Nat)(ht:t<g.Funcs.length)(q:Nat)(x:Tx):Prop:=Ds (Ed g how fs) (g.Funcs[t]).Name q x
theorem Wys.num(Y:Wys g how fs t d m){i:Nat}(hi:i<g.Funcs.length){q:Nat}(h:DN8 g how fs t Y.ht q (g.Funcs[i]).Name):d[i]? = some (q:Int)/\q<=3001:=by
 obtain⟨v,e,⟨k,rfl,hk,dk⟩|⟨_,no⟩⟩:=ways_at Y.R Y.ht Y.w hi
 ·obtain rfl:=dk.uniq h
  exact⟨e,hk⟩
 ·exact absurd h (no q)
theorem Wys.nam(Y:Wys g how fs t d m){x:Tx}{q:Nat}(h:DN8 g how fs t Y.ht q x):q8b m x=some (q:Int):=(Y.a x _).2 ⟨q,rfl,h⟩
def BR(g:q3c)(how:Int)(fs:List Tx)(t:Nat)(ht:t<g.Funcs.length)(n:Int)(x:Tx):Prop:=
 (n = -1/\x=[])\/∃i:Nat,∃hi:i<g.Funcs.length,∃q,n=(i:Int)/\x=(g.Funcs[i]).Name/\DN8 g how fs t ht q x
theorem best_ok(F:Nat)(Y:Wys g how fs t d m)(k:Int->Option (q8e×Bool×Int))(k':Tx->Option (q8e×Bool×Int)):∀(l:List Tx) (n:Int) (x:Tx),(∀y,y∈l->q8s g y=true)->BR g how fs t Y.ht n x->
  ∃n' x',z3p F (wOf g how fs) d k l n=k n'/\z2p F m k' l x=k' x'/\BR g how fs t Y.ht n' x'/\(x≠[]\/(∃y,y∈l/\∃q,DN8 g how fs t Y.ht q y)->x'≠[])/\(x'=x\/x'∈l)
 |[],n,x,_,h=>⟨n,x,rfl,rfl,h,fun q=>q.elim id (by simp),.inl rfl⟩
 |y::l,n,x,hl,h=>by
  have hl':=fun z hz=>hl z (List.mem_cons_of_mem _ hz)
  obtain⟨j,hj,hjy⟩:=q9q (hl y (by simp))
  have hfy:(q8b (wOf g how fs).funcs y).getD 0=(j:Int):=by rw[<-hjy];exact q4s Y.R how fs hj
  have hyne:y≠[]:=by rw[<-hjy];exact fname_ne Y.R (List.getElem_mem hj)
  rw[z3p,z2p]
  simp only[q3e]
  rw[hfy]
  have keep:(∀q,¬DN8 g how fs t Y.ht q y)->∃n' x',z3p F (wOf g how fs) d k l n=k n'/\z2p F m k' l x=k' x'/\BR g how fs t Y.ht n' x'/\(x≠[]\/(∃z,z∈y::l/\∃q,DN8 g how fs t Y.ht q z)->x'≠[])/\(x'=x\/x'∈y::l):=fun no=>by
   obtain⟨n',x',e1,e2,h1,h2,h3⟩:=best_ok F Y k k' l n x hl' h
   refine⟨n',x',e1,e2,h1,fun q=>h2 ?_,h3.imp id (List.mem_cons_of_mem _)⟩
   rcases q with q|⟨z,hz,q,dq⟩
   ·exact .inl q
   ·rcases List.mem_cons.1 hz with rfl|hz
    ·exact absurd dq (no q)
    ·exact .inr ⟨z,hz,q,dq⟩
  have take:∀q,DN8 g how fs t Y.ht q y->∃n' x',z3p F (wOf g how fs) d k l (j:Int)=k n'/\z2p F m k' l y=k' x'/\BR g how fs t Y.ht n' x'/\(x≠[]\/(∃z,z∈y::l/\∃q,DN8 g how fs t Y.ht q z)->x'≠[])/\(x'=x\/x'∈y::l):=fun q dq=>by
   obtain⟨n',x',e1,e2,h1,h2,h3⟩:=best_ok F Y k k' l (j:Int) y hl' (.inr ⟨j,hj,q,rfl,hjy.symm,dq⟩)
   refine⟨n',x',e1,e2,h1,fun _=>h2 (.inl hyne),.inr ?_⟩
   rcases h3 with rfl|h3
   ·simp
   ·exact List.mem_cons_of_mem _ h3
  obtain⟨v,e,⟨q,rfl,hq,dq⟩|⟨rfl,no⟩⟩:=ways_at Y.R Y.ht Y.w hj
  ·have dq':DN8 g how fs t Y.ht q y:=by rw[<-hjy];exact dq
   have em:=Y.nam dq'
   rw[idx_get e,Option.bind_some,if_pos (by simp),em,if_pos (show(some (q:Int)).isSome=true from rfl)]
   rcases h with ⟨rfl,rfl⟩|⟨i,hi,p,rfl,rfl,dp⟩
   ·rw[if_pos (by simp),if_pos (by simp)]
    exact take q dq'
   ·have hd:=(Y.num hi dp).1
    rw[if_neg (by simp),if_neg (by simpa using fname_ne Y.R (List.getElem_mem hi)),Option.bind_some,idx_get hd,Option.bind_some,Y.nam dp]
    simp only[Option.getD_some]
    by_cases hc:(q:Int)<(p:Int)
    ·rw[if_pos (by simpa using hc),if_pos (by simpa using hc)]
     exact take q dq'
    ·rw[if_neg (by simpa using hc),if_neg (by simpa using hc)]
     obtain⟨n',x',e1,e2,h1,h2,h3⟩:=best_ok F Y k k' l (i:Int) (g.Funcs[i]).Name hl' (.inr ⟨i,hi,p,rfl,rfl,dp⟩)
     exact⟨n',x',e1,e2,h1,fun _=>h2 (.inl (fname_ne Y.R (List.getElem_mem hi))),h3.imp id (List.mem_cons_of_mem _)⟩
  ·have no':∀q,¬DN8 g how fs t Y.ht q y:=fun q=>by rw[<-hjy];exact no q
   have em:q8b m y=none:=by
    cases hg:q8b m y with
    |none=>rfl
    |some v=>obtain⟨k,_,dk⟩:=(Y.a y v).1 hg;exact absurd dk (no' k)
   rw[idx_get e,Option.bind_some,if_neg (by simp),em,if_neg (by simp)]
   exact keep no'
theorem M95_L2_ok(F:Nat)(Y:Wys g how fs t d m){i:Nat}(hi:i<g.Funcs.length){q:Nat}(hd:d[i]? = some ((q+1:Nat):Int))(hq:q<=100000)(n9:Int)(c:q8c)(k:Option (q6k×q8c×Int)):∀l:List Int,l.Pairwise (·<·)->(∀v,v∈l->∃i:Nat,i<g.Funcs.length/\v=i)->
  (∃j:Nat,∃hj:j<g.Funcs.length,(j:Int)∈l/\DN8 g how fs t Y.ht q (g.Funcs[j]).Name/\(∀j':Nat,∀hj':j'<g.Funcs.length,(j':Int)∈l->DN8 g how fs t Y.ht q (g.Funcs[j']).Name->j<=j')/\
   z0j F (wOf g how fs) d (i:Int) n9 c k l=some (q6k.mk (q1o.mk (g.Funcs[i]).Name n9) (g.Funcs[j]).Name,c,(j:Int))) ∨
  ((∀j:Nat,∀hj:j<g.Funcs.length,(j:Int)∈l->¬DN8 g how fs t Y.ht q (g.Funcs[j]).Name)/\z0j F (wOf g how fs) d (i:Int) n9 c k l=k)
 |[],_,_=>.inr ⟨by simp,rfl⟩
 |x::l,hs,hl=>by
  rw[List.pairwise_cons] at hs
  obtain⟨j,hj,rfl⟩:=hl x (by simp)
  obtain⟨v,e,hv⟩:=ways_at Y.R Y.ht Y.w hj
  have hw:w64 (((q+1:Nat):Int) - 1)=(q:Int):=by rw[z6b (by omega) (by omega)];omega
  rw[z0j,idx_get e,Option.bind_some,idx_get hd,Option.bind_some,hw]
  by_cases hvq:v=(q:Int)
  ·rw[if_pos (by simpa using hvq),show(wOf g how fs).g=g from rfl,q1h hi,Option.bind_some,q1h hj,Option.bind_some]
   refine .inl ⟨j,hj,by simp,?_,fun j' hj' hm _=>?_,rfl⟩
   ·rcases hv with ⟨p,e',_,dp⟩|⟨e',_⟩
    ·obtain rfl:p=q:=by omega
     exact dp
    ·omega
   ·rcases List.mem_cons.1 hm with h|h
    ·omega
    ·have:=hs.1 _ h;omega
  ·have hno:¬DN8 g how fs t Y.ht q (g.Funcs[j]).Name:=fun h=>by
    have:=(Y.num hj h).1
    rw[e] at this
    exact hvq (Option.some.inj this)
   rw[if_neg (by simpa using hvq)]
   rcases M95_L2_ok F Y hi hd hq n9 c k l hs.2 (fun v hv=>hl v (List.mem_cons_of_mem _ hv)) with ⟨j1,hj1,a1,a2,a3,a4⟩|⟨a1,a2⟩
   ·refine .inl ⟨j1,hj1,List.mem_cons_of_mem _ a1,a2,fun j' hj' hm dj=>?_,a4⟩
    rcases List.mem_cons.1 hm with h|h
    ·obtain rfl:j'=j:=by omega
     exact absurd dj hno
    ·exact a3 j' hj' h dj
   ·refine .inr ⟨fun j' hj' hm dj=>?_,a2⟩
    rcases List.mem_cons.1 hm with h|h
    ·obtain rfl:j'=j:=by omega
     exact absurd dj hno
    ·exact a1 j' hj' h dj
theorem M95_L3_eq(F:Nat)(w:q8a)(d:List Int)(i n9:Int)(c:q8c)(k:Option (q6k×q8c×Int)):∀l:List Int,M95_L3 F w d i n9 c k l=z0j F w d i n9 c k l
 |[]=>rfl
 |x::l=>by rw[M95_L3,z0j,M95_L3_eq F w d i n9 c k l]
def okB(how:Int)(s:q4a)(m:List (Tx×Int))(x:Tx)(a:q3a):Bool:=(q8b m a.to).isSome&&(((q8b m a.to).getD 0==w64 ((q8b m x).getD 0 - 1))&&cntA how s a)
def BestOk(how:Int)(s:q4a)(m:List (Tx×Int))(x:Tx)(seen:List q3a)(b ty:Tx):Prop:=
 (b=[]/\∀a,a∈seen->okB how s m x a=false)\/(b≠[]/\(∃a,seen.find? (fun a=>okB how s m x a&&(a.to==b))=some a/\a.typ=ty)/\∀a,a∈seen->okB how s m x a=true->Op.bytesLess a.to b=false)
theorem M104_L2_ok(F:Nat)(x:Tx)(k:Tx->Tx->Option (q6k×Tx)):∀(l seen:List q3a) (b ty:Tx),(∀a,a∈l->a.to≠[])->BestOk how s m x seen b ty->∃b' ty',z5f F how s m x k l b ty=k b' ty'/\BestOk how s m x (seen++l) b' ty'
 |[],seen,b,ty,_,h=>⟨b,ty,rfl,by simpa using h⟩
 |a::l,seen,b,ty,hne,h=>by
  have hne':=fun z hz=>hne z (List.mem_cons_of_mem _ hz)
  have fin:∀b1 ty1,BestOk how s m x (seen++[a]) b1 ty1->∃b' ty',z5f F how s m x k l b1 ty1=k b' ty'/\BestOk how s m x (seen++(a::l)) b' ty':=fun b1 ty1 h1=>by
   obtain⟨b',ty',e,h2⟩:=M104_L2_ok F x k l (seen++[a]) b1 ty1 hne' h1
   exact⟨b',ty',e,by simpa using h2⟩
  have keep:okB how s m x a=false->BestOk how s m x (seen++[a]) b ty:=fun ho=>by
   rcases h with ⟨h1,h2⟩|⟨h1,⟨a',h2,h2'⟩,h3⟩
   ·refine .inl ⟨h1,fun z hz=>?_⟩
    rcases List.mem_append.1 hz with hz|hz
    ·exact h2 z hz
    ·simp only[List.mem_singleton] at hz;rw[hz];exact ho
   ·refine .inr ⟨h1,⟨a',by rw[List.find?_append,h2];rfl,h2'⟩,fun z hz q=>?_⟩
    rcases List.mem_append.1 hz with hz|hz
    ·exact h3 z hz q
    ·simp only[List.mem_singleton] at hz;rw[hz,ho] at q;simp at q
  rw[z5f]
  simp only[q3e]
  by_cases c1:(q8b m a.to).isSome=true
  ·rw[if_pos c1]
   by_cases c2:((q8b m a.to).getD 0==w64 ((q8b m x).getD 0 - 1))=true
   ·rw[if_pos c2,M160_eq,Option.bind_some]
    by_cases c3:cntA how s a=true
    ·rw[if_pos c3]
     have ho:okB how s m x a=true:=by unfold okB;rw[c1,c2,c3];rfl
     rcases h with ⟨rfl,h2⟩|⟨h1,⟨a',h2,h2'⟩,h3⟩
     ·rw[if_pos (by simp)]
      refine fin a.to a.typ (.inr ⟨hne a (by simp),⟨a,?_,rfl⟩,fun z hz q=>?_⟩)
      ·rw[List.find?_append,List.find?_eq_none.2 (fun z hz=>by rw[h2 z hz];simp)]
       simp[ho]
      ·rcases List.mem_append.1 hz with hz|hz
       ·rw[h2 z hz] at q;simp at q
       ·simp only[List.mem_singleton] at hz;rw[hz];exact q9n _
     ·rw[if_neg (by simpa using h1)]
      by_cases c4:Op.bytesLess a.to b=true
      ·rw[if_pos c4]
       refine fin a.to a.typ (.inr ⟨hne a (by simp),⟨a,?_,rfl⟩,fun z hz q=>?_⟩)
       ·rw[List.find?_append,List.find?_eq_none.2 (fun z hz=>?_)]
        ·simp[ho]
        ·intro q
         simp only[Bool.and_eq_true,beq_iff_eq] at q
         have:=h3 z hz q.1
         rw[q.2,c4] at this;simp at this
       ·rcases List.mem_append.1 hz with hz|hz
        ·cases e:Op.bytesLess z.to a.to with
         |false=>rfl
         |true=>have:=q8m e c4;rw[h3 z hz q] at this;simp at this
        ·simp only[List.mem_singleton] at hz;rw[hz];exact q9n _
      ·rw[if_neg c4]
       refine fin b ty (.inr ⟨h1,⟨a',by rw[List.find?_append,h2];rfl,h2'⟩,fun z hz q=>?_⟩)
       rcases List.mem_append.1 hz with hz|hz
       ·exact h3 z hz q
       ·simp only[List.mem_singleton] at hz;rw[hz];simpa using c4
    ·rw[if_neg c3];exact fin b ty (keep (by unfold okB;rw[Bool.eq_false_iff.2 c3];simp))
   ·rw[if_neg c2];exact fin b ty (keep (by unfold okB;rw[Bool.eq_false_iff.2 c2];simp))
  ·rw[if_neg c1];exact fin b ty (keep (by unfold okB;rw[Bool.eq_false_iff.2 c1];simp))
theorem okB_iff(X:z3b g how fs s)(Y:Wys g how fs t d m){x:Tx}{q:Nat}(hq:q<=100000)(hx:DN8 g how fs t Y.ht (q+1) x)(a:q3a):okB how s m x a=true<->cnt g how fs a/\DN8 g how fs t Y.ht q a.to:=by
 have hw:w64 (((q+1:Nat):Int) - 1)=(q:Int):=by rw[z6b (by omega) (by omega)];omega
 unfold okB
 rw[Y.nam hx,Option.getD_some,hw,Bool.and_eq_true,Bool.and_eq_true,cnt_iff X]
 constructor
 ·rintro⟨q1,q2,q3⟩
  refine⟨q3,?_⟩
  obtain⟨v,hv⟩:=Option.isSome_iff_exists.1 q1
  rw[hv] at q2
  obtain⟨k,e,dk⟩:=(Y.a _ _).1 hv
  have:v=(q:Int):=by simpa using q2
  obtain rfl:k=q:=by omega
  exact dk
 ·rintro⟨q3,dk⟩
  rw[Y.nam dk]
  exact⟨rfl,by simp,q3⟩
structure HopOk(g:q3c)(how:Int)(fs:List Tx)(t:Nat)(ht:t<g.Funcs.length)(s:q4a)(m:List (Tx×Int))(f:q5e)(q:Nat)(h:q6k)(c:q8c)(j:Nat)(a:q3a):Prop where
 hj:∃hj:j<g.Funcs.length,h.To=(g.Funcs[j]).Name
 call:callF fs f h=some c
 ina:a∈q5j g c
 cn:cnt g how fs a
 to:a.to=h.To
 near:DN8 g how fs t ht q h.To
 fnd:(q5j g c).find? (fun a=>okB how s m f.Name a&&(a.to==h.To))=some a
theorem hop_loop(F:Nat)(hF:1000<=F)(hh:how=1\/how=2)(S:SpOk g how fs sp)(X:z3b g how fs s)(Y:Wys g how fs t d m){i:Nat}(hi:i<g.Funcs.length){q:Nat}(hq:q<=100000)(hx:DN8 g how fs t Y.ht (q+1) (g.Funcs[i]).Name)
  (k:Option (q6k×q8c×Int)) (k':Option (q6k×Tx)):∀(cs:List q8c) (p:Nat),(g.Funcs[i]).Calls.drop p=cs->(∃c,c∈cs/\onF fs c.Feature=true/\∃y,gd g how fs c y/\DN8 g how fs t Y.ht q y)->
  ∃h c j a,z9o F (wOf g how fs) sp d (i:Int) k cs (p:Int)=some (h,c,((j:Nat):Int))/\z8a F how s m (g.Funcs[i]).Name k' (lks g (onF fs) (g.Funcs[i]).Name (p:Int) cs)=some (h,a.typ)/\HopOk g how fs t Y.ht s m (g.Funcs[i]) q h c j a
 |[],p,_,h=>by obtain⟨c,hc,_⟩:=h;simp at hc
 |c::cs,p,hd,hex=>by
  obtain⟨hp,hpc,hd2⟩:=q5v hd
  have hc:c∈(g.Funcs[i]).Calls:=by rw[<-hpc];exact List.getElem_mem hp
  have hon:(q8b (wOf g how fs).on c.Feature).getD false=onF fs c.Feature:=onB_eq g how fs c.Feature
  have hnum:=(Y.num hi hx).1
  rw[z9o,lks]
  simp only[q3e]
  rw[hon,show((p:Int)+1)=((p+1:Nat):Int) by omega]
  have skip:(onF fs c.Feature=true->∀y,gd g how fs c y->¬DN8 g how fs t Y.ht q y)->∃h c j a,z9o F (wOf g how fs) sp d (i:Int) k cs ((p+1:Nat):Int)=some (h,c,((j:Nat):Int))/\z8a F how s m (g.Funcs[i]).Name k' (lks g (onF fs) (g.Funcs[i]).Name ((p+1:Nat):Int) cs)=some (h,a.typ)/\HopOk g how fs t Y.ht s m (g.Funcs[i]) q h c j a:=fun no=>by
   refine hop_loop F hF hh S X Y hi hq hx k k' cs (p+1) hd2 ?_
   obtain⟨c',hc',ho,y,hy,dy⟩:=hex
   rcases List.mem_cons.1 hc' with rfl|hc'
   ·exact absurd dy (no ho y hy)
   ·exact⟨c',hc',ho,y,hy,dy⟩
  by_cases ho:onF fs c.Feature=true
  ·rw[if_neg (by rw[ho];simp),if_pos ho]
   obtain⟨tl,T,e⟩:=tgt_if F hF Y.R hh S (List.getElem_mem hi) hc
   rw[e _ _ _ (fun l'=>M95_L3_eq F _ d (i:Int) (p:Int) c _ l')]
   rw[z8a]
   simp only[q3e]
   obtain⟨b,ty,e2,B⟩:=M104_L2_ok (how:=how) (s:=s) (m:=m) F (g.Funcs[i]).Name (fun s14 s15=>if (!(s14==([]:B8)))=true then some ((q6k.mk (q1o.mk (g.Funcs[i]).Name (p:Int)) s14),s15) else z8a F how s m (g.Funcs[i]).Name k' (lks g (onF fs) (g.Funcs[i]).Name ((p+1:Nat):Int) cs)) (q5j g c) [] [] [] (fun a ha=>by
    obtain⟨j,hj,hje⟩:=q9q (q5t Y.R (List.getElem_mem hi) hc ha)
    rw[<-hje];exact fname_ne Y.R (List.getElem_mem hj)) (.inl ⟨rfl,by simp⟩)
   rw[e2]
   rw[List.nil_append] at B
   rcases M95_L2_ok F Y hi hnum hq (p:Int) c (z9o F (wOf g how fs) sp d (i:Int) k cs ((p+1:Nat):Int)) tl T.srt T.nat with ⟨j,hj,a1,a2,a3,a4⟩|⟨a1,a2⟩
   ·obtain⟨a,ha,hcn,hto⟩:=(T.mem j hj).1 a1
    have hok:okB how s m (g.Funcs[i]).Name a=true:=(okB_iff X Y hq hx a).2 ⟨hcn,by rw[hto];exact a2⟩
    rcases B with ⟨_,h2⟩|⟨h1,⟨a',h2,h2'⟩,h3⟩
    ·rw[h2 a ha] at hok;simp at hok
    ·have hp2:=List.find?_some h2
     have hin:=List.mem_of_find?_eq_some h2
     simp only[Bool.and_eq_true,beq_iff_eq] at hp2
     obtain⟨hcn',dn'⟩:=(okB_iff X Y hq hx a').1 hp2.1
     obtain⟨j',hj',hje'⟩:=q9q (q5t Y.R (List.getElem_mem hi) hc hin)
     have hle:j<=j':=a3 j' hj' ((T.mem j' hj').2 ⟨a',hin,hcn',hje'.symm⟩) (by rw[hje'];exact dn')
     have hjj:j=j':=by
      apply Classical.byContradiction
      intro hne
      have hlt:j<j':=by omega
      have:=List.pairwise_iff_getElem.1 Y.R.fsrt j j' hj hj' hlt
      have h4:=h3 a ha hok
      rw[hto,<-hp2.2,<-hje',this] at h4;simp at h4
     subst hjj
     have hb:b=(g.Funcs[j]).Name:=by rw[<-hp2.2,hje']
     rw[a4,if_pos (by simpa using h1)]
     refine⟨_,c,j,a',rfl,by rw[hb,h2'],⟨hj,rfl⟩,?_,hin,hcn',hje'.symm,a2,?_⟩
     ·unfold callF
      rw[if_pos ⟨rfl,Int.natCast_nonneg _⟩]
      simp only[Int.toNat_natCast]
      rw[List.getElem?_eq_getElem hp,hpc,Option.bind_some,if_pos ho]
     ·rw[hb] at h2;exact h2
   ·rcases B with ⟨h1,h2⟩|⟨h1,⟨a',h2,h2'⟩,h3⟩
    ·rw[a2,if_neg (by simp[h1])]
     refine skip fun _ y ⟨a,ha,hcn,hto⟩ dy=>?_
     have:=(okB_iff X Y hq hx a).2 ⟨hcn,by rw[hto];exact dy⟩
     rw[h2 a ha] at this;simp at this
    ·have hp2:=List.find?_some h2
     have hin:=List.mem_of_find?_eq_some h2
     simp only[Bool.and_eq_true,beq_iff_eq] at hp2
     obtain⟨hcn',dn'⟩:=(okB_iff X Y hq hx a').1 hp2.1
     obtain⟨j',hj',hje'⟩:=q9q (q5t Y.R (List.getElem_mem hi) hc hin)
     exact absurd (by rw[hje'];exact dn') (a1 j' hj' ((T.mem j' hj').2 ⟨a',hin,hcn',hje'.symm⟩))
  ·rw[if_pos (by simpa using ho),if_neg ho]
   exact skip fun h=>absurd h ho
theorem hop_ok(F:Nat)(hF:1000<=F)(hh:how=1\/how=2)(S:SpOk g how fs sp)(N:NetOk g fs n)(X:z3b g how fs s)(Y:Wys g how fs t d m){i:Nat}(hi:i<g.Funcs.length){q:Nat}(hq:q<=100000)(hx:DN8 g how fs t Y.ht (q+1) (g.Funcs[i]).Name):
  ∃h c j a,M95 F (wOf g how fs) sp d (i:Int)=some (h,c,((j:Nat):Int))/\M104 F n how s m (g.Funcs[i]).Name=some (h,a.typ)/\HopOk g how fs t Y.ht s m (g.Funcs[i]) q h c j a:=by
 obtain⟨y,⟨hr,f,hf,hfe,c,hc,ho,hg⟩,dy⟩:=hx.succ
 have e1:=q8o (f:=q5e.Name) Y.R.fsrt hf
 have e2:=find_at Y.R hi
 rw[hfe,e2] at e1
 obtain rfl:=Option.some.inj e1
 unfold M95 M104
 rw[show(wOf g how fs).g=g from rfl,q1h hi,Option.bind_some]
 simp only[q3e]
 have hl:(q8b n.links (g.Funcs[i]).Name).getD []=lks g (onF fs) (g.Funcs[i]).Name 0 (g.Funcs[i]).Calls:=N.l _ (List.getElem_mem hi)
 rw[hl]
 exact hop_loop F hF hh S X Y hi hq hx _ _ (g.Funcs[i]).Calls 0 rfl ⟨c,hc,ho,y,hg,dy⟩
end
section
variable{g:q3c}{how:Int}{fs:List Tx}{sp:q2c}{n:q2b}{s:q4a}{t:Nat}{d:List Int}{m:List (Tx×Int)}
theorem M96_L1_ok(F:Nat)(hF:1000<=F)(R:q5g g)(S:SpOk g how fs sp)(X:z3b g how fs s)(h2:how≠1){x:q5e}(hx:x∈g.Funcs){c:q8c}(hc:c∈x.Calls)(kd:c.Kind≠1){I:q4e}(I3:ifG g c.Target=I)(I4:∀t,fitB t I=true->(mOf t c.Method).2=true){j:Nat}(hj:j<g.Funcs.length)(k5:Option Tx):
  ∀(l:List q0i) (p:Nat),g.Types.drop p=l->M96_L1 F (wOf g how fs) sp c (j:Int) k5 (q5l I (p:Int) l)=match (l.filterMap (aimO g c)).find? (fun a=>cntA how s a&&(a.to==(g.Funcs[j]).Name)) with|some a=>some a.typ|none=>k5
 |[],p,_=>rfl
 |ty::l,p,hd=>by
  obtain⟨hp,hpt,hd2⟩:=q5v hd
  have ih:=M96_L1_ok F hF R S X h2 hx hc kd I3 I4 hj k5 l (p+1) hd2
  rw[q5l,List.filterMap_cons,show((p:Int)+1)=((p+1:Nat):Int) by omega]
  by_cases hf:fitB ty I=true
  ·have ha:aimO g c ty=some (q3a.mk ty.Name (mOf ty c.Method).1):=by unfold aimO;rw[if_pos ⟨I4 _ hf,by rw[I3];exact hf⟩]
   have hpm:p<sp.made.length:=by rw[S.ml];exact hp
   rw[if_pos hf,ha,M96_L1]
   simp only[q3e]
   rw[List.find?_cons,q1h hpm,Option.bind_some]
   have hty:ty∈g.Types:=by rw[<-hpt];exact List.getElem_mem hp
   have hcn:cntA how s (q3a.mk ty.Name (mOf ty c.Method).1)=sp.made[p]:=by
    rw[Bool.eq_iff_iff,cnt_iff X]
    have:=S.m p hp
    unfold tru at this
    rw[List.getElem?_eq_getElem hpm,Option.some.injEq,hpt] at this
    rw[this]
    exact⟨fun q=>q h2 (name_ne R hty),fun q _ _=>q⟩
   rw[hcn]
   cases hb:sp.made[p] with
   |false=>rw[if_neg (by simp),ih];simp
   |true=>
    rw[if_pos rfl,M151_at hF R how fs c hp,Option.bind_some,hpt]
    have hin:q3a.mk ty.Name (mOf ty c.Method).1∈q5j g c:=by
     unfold q5j
     rw[if_neg kd]
     exact List.mem_filterMap.2 ⟨ty,hty,ha⟩
    obtain⟨q,hq,hqe⟩:=q9q (q5t R hx hc hin)
    have hqe:(g.Funcs[q]).Name=(mOf ty c.Method).1:=hqe
    rw[<-hqe,q4s R how fs hq]
    by_cases e:q=j
    ·subst e
     rw[if_pos (by simp),show(wOf g how fs).g=g from rfl,q1h hp,Option.bind_some,hpt]
     simp
    ·have hne:((g.Funcs[q]).Name==(g.Funcs[j]).Name)=false:=by
      rw[beq_eq_false_iff_ne];exact fun h=>e (name_inj R hq hj h)
     rw[if_neg (by simp;omega),ih]
     simp[hne]
  ·have ha:aimO g c ty=none:=by unfold aimO;rw[if_neg (fun q=>hf (by rw[<-I3];exact q.2))]
   rw[if_neg hf,ha,ih]
theorem M96_ok(F:Nat)(hF:1000<=F)(S:SpOk g how fs sp)(X:z3b g how fs s)(Y:Wys g how fs t d m)(h2:how≠1){f:q5e}(hf:f∈g.Funcs){q:Nat}(hq:q<=100000)(hx:DN8 g how fs t Y.ht (q+1) f.Name){h:q6k}{c:q8c}{j:Nat}{a:q3a}(hj:j<g.Funcs.length)(hto:h.To=(g.Funcs[j]).Name)(H:HopOk g how fs t Y.ht s m f q h c j a)(kd:c.Kind≠1):M96 F (wOf g how fs) sp c (j:Int)=some a.typ:=by
 obtain⟨hc,_,_⟩:=z1o H.call
 obtain⟨I,I1,I2,I3,I4⟩:=dis_aim Y.R hf hc kd
 have e:(q8b (wOf g how fs).fitting c.Target).getD []=q5l I 0 g.Types:=by
  unfold wOf
  simp only
  rw[z8g g.Types c.Target g.Ifaces [] Y.R.isrt]
  simp only[q8b,Option.getD_none,List.nil_append]
  rw[I2];rfl
 unfold M96
 rw[e,q3e]
 have:=M96_L1_ok F hF Y.R S X h2 hf hc kd I3 I4 hj (some []) g.Types 0 rfl
 rw[show((0:Nat):Int)=0 from rfl] at this
 rw[this]
 have hfn:=H.fnd
 have hfun:(fun a=>okB how s m f.Name a&&(a.to==h.To))=fun a=>cntA how s a&&(a.to==h.To):=by
  funext a'
  by_cases e:a'.to=h.To
  ·congr 1
   rw[Bool.eq_iff_iff,okB_iff X Y hq hx,cnt_iff X,e]
   exact⟨fun q=>q.1,fun q=>⟨q,H.near⟩⟩
  ·have:(a'.to==h.To)=false:=by rw[beq_eq_false_iff_ne];exact e
   rw[this];simp
 rw[hfun,hto] at hfn
 unfold q5j at hfn
 rw[if_neg kd] at hfn
 rw[hfn]
def mkr(g:q3c)(s:q4a)(ty:Tx):Tx:=((g.Funcs.find? fun f=>(q8b s.reached f.Name).getD false&&f.Makes.contains ty).map q5e.Name).getD []
theorem M97_L1_ok(F:Nat)(S:SpOk g how fs sp)(X:z3b g how fs s)(ty:Tx)(k:Option Tx):∀(l:List q5e) (p:Nat),g.Funcs.drop p=l->M97_L1 F sp ty k l (p:Int)=match l.find? (fun f=>(q8b s.reached f.Name).getD false&&f.Makes.contains ty) with|some f=>some f.Name|none=>k
 |[],p,_=>rfl
 |f::l,p,hd=>by
  obtain⟨hp,hpf,hd2⟩:=q5v hd
  have ih:=M97_L1_ok F S X ty k l (p+1) hd2
  have hpl:p<sp.funcs.length:=by rw[S.fl];exact hp
  rw[M97_L1,List.find?_cons,show((p:Int)+1)=((p+1:Nat):Int) by omega]
  simp only[q3e]
  rw[q1h hpl,Option.bind_some]
  have hr:(q8b s.reached f.Name).getD false=sp.funcs[p]:=by
   rw[Bool.eq_iff_iff,X.r.get,X.hr]
   have:=S.f p hp
   unfold tru at this
   rw[List.getElem?_eq_getElem hpl,Option.some.injEq,hpf] at this
   exact this.symm
  rw[hr]
  cases hb:sp.funcs[p] with
  |false=>rw[if_neg (by simp),ih];simp
  |true=>
   rw[if_pos rfl,M23_eq,Option.bind_some]
   cases hm:f.Makes.contains ty with
   |false=>rw[if_neg (by simp),ih];simp
   |true=>rw[if_pos rfl];simp
theorem M97_ok(F:Nat)(S:SpOk g how fs sp)(X:z3b g how fs s)(ty:Tx):M97 F (wOf g how fs) sp ty=some (mkr g s ty):=by
 unfold M97 mkr
 rw[q3e,show(wOf g how fs).g=g from rfl]
 have:=M97_L1_ok F S X ty (some []) g.Funcs 0 rfl
 rw[show((0:Nat):Int)=0 from rfl] at this
 rw[this]
 cases g.Funcs.find? (fun f=>(q8b s.reached f.Name).getD false&&f.Makes.contains ty)<;>rfl
theorem M106_L2_eq(F:Nat)(ty:Tx)(f:q5e)(k:Option Tx):∀l:List Tx,z4f F ty f k l=if l.contains ty=true then some f.Name else k
 |[]=>by simp[z4f]
 |x::l=>by
  rw[z4f,M106_L2_eq F ty f k l,List.contains_cons]
  by_cases h:x=ty
  ·rw[if_pos (by simpa using h),if_pos (by simp[h])]
  ·have h1:(ty==x)=false:=by rw[beq_eq_false_iff_ne];exact Ne.symm h
   rw[if_neg (by simpa using h),h1,Bool.false_or]
theorem M106_L1_eq(F:Nat)(ty:Tx)(k:Option Tx):∀l:List q5e,z5l F s ty k l=match l.find? (fun f=>(q8b s.reached f.Name).getD false&&f.Makes.contains ty) with|some f=>some f.Name|none=>k
 |[]=>rfl
 |f::l=>by
  rw[z5l,List.find?_cons]
  simp only[q3e]
  rw[M106_L2_eq,M106_L1_eq F ty k l]
  cases (q8b s.reached f.Name).getD false<;>cases f.Makes.contains ty<;>simp
theorem M106_ok(F:Nat)(N:NetOk g fs n)(ty:Tx):M106 F n s ty=some (mkr g s ty):=by
 unfold M106 mkr
 rw[q3e,M106_L1_eq,N.gr]
 cases g.Funcs.find? (fun f=>(q8b s.reached f.Name).getD false&&f.Makes.contains ty)<;>rfl
inductive z1b(g:q3c)(how:Int)(fs:List Tx)(T:Tx):Tx->List q6k->List Tx->Prop
 |nil:z1b g how fs T T [] []
 |all {f:q5e} {h:q6k} {hs:List q6k} {ts:List Tx} {c:q8c} (hf:f∈g.Funcs) (hc:callF fs f h=some c) (ha:∃a,a∈q5j g c/\a.to=h.To) (h1:how=1\/c.Kind=1) (r:z1b g how fs T h.To hs ts):z1b g how fs T f.Name (h::hs) ts
 |dis {f:q5e} {h:q6k} {hs:List q6k} {ts:List Tx} {c:q8c} {a:q3a} (hf:f∈g.Funcs) (hc:callF fs f h=some c) (h2:how≠1) (kd:c.Kind≠1) (ha:a∈q5j g c) (hto:a.to=h.To) (hne:a.typ≠[]) (hr:RN g how (onF fs) true a.typ) (r:z1b g how fs T h.To hs ts):z1b g how fs T f.Name (h::hs) (a.typ::ts)
def putT(mm:List (Tx×Bool))(ts:List Tx):List (Tx×Bool):=ts.foldl (fun mm t=>q7f mm t true) mm
def mkE(g:q3c)(s:q4a)(p:Tx×Bool):Tx×Tx:=(p.1,mkr g s p.1)
theorem mput_mk(x:Tx):∀mm:List (Tx×Bool),q7f (mm.map (mkE g s)) x (mkr g s x)=(q7f mm x true).map (mkE g s)
 |[]=>rfl
 |p::mm=>by
  simp only[List.map_cons,q7f]
  by_cases h:p.1=x
  ·rw[if_pos (by simpa[mkE] using h),if_pos h];simp[mkE]
  ·rw[if_neg (by simpa[mkE] using h),if_neg h,mput_mk x mm];rfl
theorem way_ok(F:Nat)(hF:1000<=F)(hh:how=1\/how=2)(S:SpOk g how fs sp)(N:NetOk g fs n)(X:z3b g how fs s)(Y:Wys g how fs t d m)(y5:(Option q8a)×Int×Int)(hy5:y5.2.1=(t:Int))
  (k:List (Tx×Tx)->List q6k->Option (q8e×Bool×Int)) (k':List (Tx×Bool)->List q6k->Option (q8e×Bool×Int)):
  ∀(q fuel i:Nat) (hi:i<g.Funcs.length) (mm:List (Tx×Bool)) (l:List q6k),DN8 g how fs t Y.ht q (g.Funcs[i]).Name->q<fuel->l.length+q<=100000->
  ∃hs ts,z3j F y5 (wOf g how fs) sp d k fuel (i:Int) (mm.map (mkE g s)) l=k ((putT mm ts).map (mkE g s)) (l++hs)/\z2j F how (g.Funcs[t]'Y.ht).Name n s m k' fuel (g.Funcs[i]).Name mm l=k' (putT mm ts) (l++hs)/\
   z1b g how fs (g.Funcs[t]'Y.ht).Name (g.Funcs[i]).Name hs ts
 |_,0,_,_,_,_,_,h,_=>absurd h (Nat.not_lt_zero _)
 |0,fuel+1,i,hi,mm,l,hq,_,_=>by
  have e:i=t:=name_inj Y.R hi Y.ht (Ds.zero.1 hq)
  subst e
  refine⟨[],[],?_,?_,.nil⟩
  ·rw[z3j,hy5,if_neg (by simp)];simp[putT]
  ·rw[z2j,if_neg (by simp)];simp[putT]
 |q+1,fuel+1,i,hi,mm,l,hq,hfu,hl=>by
  have hne:i≠t:=fun e=>by
   subst e
   have:=hq.uniq (Ds.zero.2 rfl)
   omega
  have hnn:((g.Funcs[i]).Name==(g.Funcs[t]'Y.ht).Name)=false:=by
   rw[beq_eq_false_iff_ne];exact fun h=>hne (name_inj Y.R hi Y.ht h)
  obtain⟨h,c,j,a,e1,e2,H⟩:=hop_ok F hF hh S N X Y hi (by omega) hq
  obtain⟨hj,hto⟩:=H.hj
  have hin:=z1o H.call
  have hkind:=(Y.R.f _ (List.getElem_mem hi)).calls c hin.1
  have hlen:(l++[h]).length*40<=140737488355328:=by simp;omega
  have hl2:(l++[h]).length+q<=100000:=by simp;omega
  have near:DN8 g how fs t Y.ht q (g.Funcs[j]).Name:=by rw[<-hto];exact H.near
  have hne':((i:Int) != (t:Int))=true:=by rw[bne_iff_ne];omega
  rw[z3j,hy5,if_pos hne',e1,Option.bind_some,z2j,hnn,if_pos (show(!false)=true from rfl),e2,Option.bind_some,if_pos hlen]
  simp only[q3e]
  rw[made_eq hh,hto]
  by_cases h2:how=1
  ·have hA:(how==2)=false:=by rw[h2];decide
   obtain⟨hs,ts,a1,a2,a3⟩:=way_ok F hF hh S N X Y y5 hy5 k k' q fuel j hj mm (l++[h]) near (by omega) hl2
   simp only[hA,Bool.false_eq_true,if_false,if_pos hlen]
   refine⟨h::hs,ts,by rw[a1];simp,by rw[a2];simp,.all (List.getElem_mem hi) H.call ⟨a,H.ina,H.to⟩ (.inl h2) (by rw[hto];exact a3)⟩
  ·have h3:how=2:=by omega
   have hA:(how==2)=true:=by rw[h3];decide
   by_cases kd:c.Kind=1
   ·have haim:a.typ=[]:=by
     have:=H.ina
     unfold q5j at this
     rw[if_pos kd] at this
     simp only[List.mem_singleton] at this
     rw[this]
    have hK:(c.Kind==2)=false:=by rw[kd];decide
    have hT:(!(a.typ==([]:Tx)))=false:=by rw[haim];rfl
    obtain⟨hs,ts,a1,a2,a3⟩:=way_ok F hF hh S N X Y y5 hy5 k k' q fuel j hj mm (l++[h]) near (by omega) hl2
    simp only[hA,hK,hT,Bool.false_eq_true,if_false,if_true,if_pos hlen]
    refine⟨h::hs,ts,by rw[a1];simp,by rw[a2];simp,.all (List.getElem_mem hi) H.call ⟨a,H.ina,H.to⟩ (.inr kd) (by rw[hto];exact a3)⟩
   ·have kd2:c.Kind=2:=by rcases hkind.kind with ⟨q,_⟩|⟨q,_⟩<;>omega
    have hne:a.typ≠[]:=by
     have:=H.ina
     unfold q5j at this
     rw[if_neg kd] at this
     obtain⟨ty,hty,h4⟩:=List.mem_filterMap.1 this
     unfold aimO at h4
     split at h4
     ·simp only[Option.some.injEq] at h4;rw[<-h4];exact name_ne Y.R hty
     ·simp at h4
    have hK:(c.Kind==2)=true:=by rw[kd2];decide
    have hT:(!(a.typ==([]:Tx)))=true:=by rw[Bool.not_eq_true',beq_eq_false_iff_ne];exact hne
    obtain⟨hs,ts,a1,a2,a3⟩:=way_ok F hF hh S N X Y y5 hy5 k k' q fuel j hj (q7f mm a.typ true) (l++[h]) near (by omega) hl2
    simp only[hA,hK,hT,if_true,M96_ok F hF S X Y h2 (List.getElem_mem hi) (by omega) hq hj hto H kd,M97_ok F S X,Option.bind_some,mput_mk,if_pos hlen]
    refine⟨h::hs,a.typ::ts,by rw[a1];simp[putT],by rw[a2];simp[putT],.dis (List.getElem_mem hi) H.call h2 kd H.ina H.to hne (H.cn h2 hne) (by rw[hto];exact a3)⟩
theorem reach_way{T:Tx}{b:Bool}{y:Tx}(h:RN g how (onF fs) b y):b=false->(∃k,Wk (Ed g how fs) T k y)->∃e,e∈g.Entries/\∃k,Wk (Ed g how fs) T k e:=by
 induction h with
 |entry he=>exact fun _ w=>⟨_,he,w⟩
 |aim hf hx hc ho ha hm ih _=>
  intro _ ⟨k,w⟩
  exact ih rfl ⟨k+1,.s ⟨hf,_,hx,rfl,_,hc,ho,_,ha,hm,rfl⟩ w⟩
 |mk=>intro q;simp at q
end
end Go.Proofs.YtpbkggamiipdmaaGreat
