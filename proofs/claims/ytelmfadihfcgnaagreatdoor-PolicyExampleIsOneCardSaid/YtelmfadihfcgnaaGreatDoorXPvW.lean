/- Part of the proof: W. -/
import Derived.Test.YtelmfadihfcgnaaGreatDoorXPvT
set_option linter.unusedSimpArgs false
set_option linter.unusedVariables false
namespace Go.Pv
open Go
section
variable{K:Ctx}{Q:q5l}{S S':St}{s s':List It}{ops:Array Oper}{rest:List Oper}{op:Op}{ty:TypeId}{pos:String}{after:Array Edge}{g:Option (Nat×Bool)}{t:TT}
theorem y5s(ht:q7p K.P t){bop:BinOp}{T T':TypeId}{x y:Operand}{a b v:V}{d:Nat}(h:bin t bop T a b=some v)(hx:evl K S x=a)(hy:evl K S y=b)
  (hw:q2d ops S ⟨some d,.binOp bop T x y T',ty,pos,after,g⟩ true) (hN:Nat.blt d K.N=true) (k:q1d K ops rest Q (S.put d v)):q1d K ops (⟨some d,.binOp bop T x y T',ty,pos,after,g⟩::rest) Q S:=by
 unfold bin at h;split at h
 ·split at h
  ·split at h
   ·rename_i hv;simp at h;subst h;exact w2q _ hw hx hy hv hN k
   ·simp at h
  ·rename_i p q;split at h
   ·simp at h
   ·split at h
    ·rename_i v' hv;simp at h;subst h;exact z1q v' hw (by rw[hx,q1t]) (by rw[hy,q1t]) hv hN k
    ·simp at h
  ·split at h
   ·rename_i hB;split at h
    ·simp at h;subst h;exact v6m false hw (askB ht hB) hx hy hN k
    ·simp at h;subst h;exact v6m true hw (askB ht hB) hx hy hN k
    ·simp at h
   ·simp at h
  ·split at h
   ·rename_i hB;split at h
    ·simp at h;subst h;exact j3c false (z0s ht hB) hw hx hy hN k
    ·simp at h;subst h;exact j3c true (z0s ht hB) hw hx hy hN k
    ·simp at h
   ·simp at h
  ·simp at h
 ·simp at h
theorem j9n{t:TT}{T o:Nat}{row:List V}{v:V}{n:Nat}(hn:ask t T TF.qA=some n)(h:ldV t T row o=some v):∃cs,v=.agg cs/\cut row o n=some cs/\ndB cs=true:=by
 unfold ldV at h;rw[hn] at h;simp only at h;split at h
 ·rename_i cs hc;split at h
  ·rename_i hb;simp at h;exact⟨cs,h.symm,hc,hb⟩
  ·simp at h
 ·simp at h
theorem z2y{t:TT}{T o:Nat}{row:List V}{v:V}(hn:ask t T TF.qA=none)(h:ldV t T row o=some v):ask t T TF.qC=some ()/\lgt row o=some v/\v.deep=false:=by
 unfold ldV at h;rw[hn] at h;simp only at h;split at h
 ·rename_i hq;split at h
  ·rename_i c hc;split at h
   ·rename_i hb;simp at h;subst h;exact⟨hq,hc,hb⟩
   ·simp at h
  ·simp at h
 ·simp at h
theorem ldV_i(ht:q7p K.P t){T:TypeId}{x:Operand}{row:List V}{o:Nat}{v:V}{d:Nat}(h:ldV t T row o=some v)(hx:evl K S x=.iptr row o)
  (hw:q2d ops S ⟨some d,.load T x,ty,pos,after,g⟩ true) (hN:Nat.blt d K.N=true) (k:q1d K ops rest Q (S.put d v)):q1d K ops (⟨some d,.load T x,ty,pos,after,g⟩::rest) Q S:=by
 cases hn:ask t T TF.qA with
 |some n=>
  obtain⟨cs,rfl,hc,_⟩:=j9n hn h;exact j5h (y0z ht hn) hw hx (z2u hc).1 (z2u hc).2 hN k
 |none=>
  obtain⟨hq,hc,_⟩:=z2y hn h;exact j0d v (y9y ht hq) hw hx (q7s hc) hN k
theorem y4p(ht:q7p K.P t){T e:TypeId}{x:Operand}{id k i:Nat}{rows:List (List V)}{row:List V}{o:Nat}{v:V}{d:Nat}(h:ldV t T row o=some v)(hx:evl K S x=.ptr id k i o)
  (ho:q7b S.hp id=.arr e k rows) (hr:rows[i]? = some row)
  (hw:q2d ops S ⟨some d,.load T x,ty,pos,after,g⟩ true) (hN:Nat.blt d K.N=true) (kk:q1d K ops rest Q (S.put d v)):q1d K ops (⟨some d,.load T x,ty,pos,after,g⟩::rest) Q S:=by
 cases hn:ask t T TF.qA with
 |some n=>
  obtain⟨cs,rfl,hc,hd⟩:=j9n hn h;exact q2l (y0z ht hn) hw hx ho hr (z2u hc).1 (z2u hc).2 hd hN kk
 |none=>
  obtain⟨hq,hc,hd⟩:=z2y hn h;exact q5o v (y9y ht hq) hw hx ho hr (q7s hc) hd hN kk
theorem w7y{P:Program}{T f:Nat}(h:y3l P T f=true):∃fs fl,P.underlying T=some (.struct fs)/\fs[f]? = some fl/\tyC P fl.type=true:=by
 unfold y3l at h;split at h
 ·rename_i fs hu;split at h
  ·rename_i fl hf;exact⟨fs,fl,hu,hf,h⟩
  ·simp at h
 ·simp at h
theorem q0q{α:Type}{a:Array α}{x:α}(h:a.toList=[x]):a=#[x]:=by cases a;simp at h;subst h;rfl
theorem q6m{α:Type}{a:Array α}{x y:α}(h:a.toList=[x,y]):a=#[x,y]:=by cases a;simp at h;subst h;rfl
theorem q7x{α:Type}{a:Array α}(h:a.toList=[]):a=#[]:=by cases a;simp at h;subst h;rfl
theorem v7t(ht:q7p K.P t){e:Env}{hp:q8d}(ha:Ag e S)(hh:AgH hp S){v:V}{d:Nat}(h:val t e hp op=some v)(hw:q2d ops S ⟨some d,op,ty,pos,after,g⟩ true)(hN:Nat.blt d K.N=true)
  (k:q1d K ops rest Q (S.put d v)):q1d K ops (⟨some d,op,ty,pos,after,g⟩::rest) Q S:=by
 cases op with
 |move x=>exact w9d v hw (q0d ha h) hN k
 |assign x=>exact v0h v hw (q0d ha h) hN k
 |pick c x y=>
  simp only[val] at h;split at h
  ·rename_i b hc;cases b with
   |true=>exact j9x true v hw (q0d ha hc) rfl (q0d ha h) hN k
   |false=>exact j9x false v hw (q0d ha hc) rfl (q0d ha h) hN k
  ·simp at h
 |binOp bop T x y T'=>
  simp only[val] at h;split at h
  ·rename_i a ha';split at h
   ·rename_i b hb;exact y5s ht h (q0d ha ha') (q0d ha hb) hw hN k
   ·simp at h
  ·simp at h
 |unOp uop T x=>
  simp only[val] at h;split at h
  ·rename_i hx;split at h
   ·simp at h;subst h;exact w8p hw (q0d ha hx) hN k
   ·simp at h
  ·rename_i hx;split at h
   ·simp only[az9] at h;subst h;exact w9p hw (q0d ha hx) hN k
   ·simp at h
  ·simp at h
 |extract x i=>
  simp only[val] at h;split at h
  ·rename_i vs hx;exact j6y v hw (q0d ha hx) (q7s h) hN k
  ·simp at h
 |load T x=>
  simp only[val] at h;split at h
  ·rename_i hx;exact ldV_i ht h (q0d ha hx) hw hN k
  ·rename_i id kk i o hx;split at h
   ·rename_i e k2 rows ho;split at h
    ·rename_i hk;have hk:=co9 hk;subst hk;split at h
     ·rename_i row hr;exact y4p ht h (q0d ha hx) (hh _ _ ho) (q7s hr) hw hN k
     ·simp at h
    ·simp at h
   ·simp at h
  ·simp at h
 |fieldAddr T x f=>
  simp only[val] at h;split at h
  ·rename_i off hF;split at h
   ·rename_i hx;simp at h;subst h;exact j6h (askF ht hF) hw (q0d ha hx) hN k
   ·rename_i hx;simp at h;subst h;exact j1d (askF ht hF) hw (q0d ha hx) hN k
   ·simp at h
  ·simp at h
 |field T x f=>
  simp only[val] at h;split at h
  ·rename_i off hF;split at h
   ·rename_i hFC;split at h
    ·rename_i cs hx;exact v7g v (askF ht hF) (w7y (askFC ht hFC)) hw (q0d ha hx) (q7s h) hN k
    ·simp at h
   ·simp at h
  ·simp at h
 |build T parts=>
  simp only[val] at h;split at h
  ·rename_i n zs hz;split at h
   ·rename_i pls hp;split at h
    ·rename_i ps hps;split at h
     ·rename_i cs hf;split at h
      ·rename_i cs' hc;simp at h;subst h;have hc:=z2e hc;subst hc;exact v6r ps cs (w6p ht hz).1 (askPl ht hp) (w6p ht hz).2.2 hw (j3x ha hps) hf hN k
      ·simp at h
     ·simp at h
    ·simp at h
   ·simp at h
  ·simp at h
 |makeFunc fn first caps=>
  simp only[val] at h;split at h
  ·split at h
   ·rename_i hf;have hf:=q7x hf;subst hf;split at h
    ·rename_i cs hc;simp at h;subst h;exact j7p cs hw (j4x ha hc) hN k
    ·simp at h
   ·simp at h
  ·simp at h
 |convert src dst x=>
  simp only[val] at h;split at h
  ·rename_i kk hI;split at h
   ·rename_i hU;split at h
    ·rename_i hx;simp at h;subst h;exact j8y (askI ht hI) (askU ht hU) hw (q0d ha hx) hN k
    ·simp at h
   ·simp at h
  ·simp at h
 |nilCheck x=>
  simp only[val] at h;split at h
  ·rename_i hx;simp at h;subst h;exact z2s hw (q0d ha hx) hN k
  ·rename_i hx;simp at h;subst h;exact z6p hw (q0d ha hx) hN k
  ·simp at h
 |indexAddr T x y=>
  simp only[val] at h;split at h
  ·rename_i len kk hA;split at h
   ·rename_i hx;split at h
    ·rename_i hy;split at h
     ·split at h
      ·rename_i j hb;simp at h;subst h;have:=az8 hb;exact z8j (w1w ht hA) hw (q0d ha hx) (q0d ha hy) (by simp) (Nat.lt_of_succ_le this) hN k
      ·simp at h
     ·simp at h
    ·simp at h
   ·simp at h
  ·simp at h
 |call c=>
  obtain⟨callee,args,at'⟩:=c;simp only[val] at h;split at h
  ·rename_i b;split at h
   ·rename_i x T h1 h2;have h1:=q0q h1;have h2:=q0q h2;subst h1;subst h2;split at h
    ·rename_i a ha';have ha':=q0d (K:=K) ha ha';unfold ap1 at h;split at h
     ·split at h
      ·split at h
       ·split at h
        ·rename_i hS;simp at h;subst h;exact w0e (v5m ht hS) hw (by rw[ha',q1t]) hN k
        ·simp at h
       ·simp at h
      ·split at h
       ·split at h
        ·rename_i hS;simp at h;subst h;exact j8p (z0s ht hS) hw ha' rfl hN k
        ·simp at h
       ·simp at h
      ·simp at h
     ·split at h
      ·split at h
       ·rename_i hS;simp at h;subst h;exact j8p (z0s ht hS) hw ha' rfl hN k
       ·simp at h
      ·simp at h
     ·simp at h
    ·simp at h
   ·rename_i x y T T' h1 h2;have h1:=q6m h1;have h2:=q6m h2;subst h1;subst h2;split at h
    ·rename_i a ha';split at h
     ·rename_i b' hb;have ha':=q0d (K:=K) ha ha';have hb:=q0d (K:=K) ha hb;unfold ap2 at h;split at h
      ·split at h
       ·split at h
        ·rename_i hk;have hk:=of_decide_eq_true hk;subst hk;split at h
         ·simp at h;subst h;exact w0q hw ha' hb hN k
         ·simp at h;subst h;exact w1q hw ha' hb hN k
         ·simp at h
        ·simp at h
       ·simp at h
      ·simp at h
     ·simp at h
    ·simp at h
   ·simp at h
  ·simp at h
 |_=>simp[val] at h
def wt(ops:Array Oper)(e:Env):Option (Nat×Bool)->Option Bool
 |none=>some true
 |some (j,want)=>
  match ops[j]? with
  |some o=>(match o.dst with
   |some t=>(match gtC e t with
    |some (.con v)=>(match v with
     | .bool c=>(match c with|true=>some want|false=>(match want with|true=>some false|false=>some true))
     | .tuple a=>(match a.toList with|[]=>some false|_=>none)
     |_=>none)
    |_=>none)
   |none=>none)
  |none=>none
theorem z5m{e:Env}(ha:Ag e S){o:Oper}{b:Bool}(h:wt ops e o.guard=some b):q2d ops S o b:=by
 unfold q2d;generalize o.guard=gd at h;cases gd with
 |none=>simp[wt] at h;simp[<-h]
 |some p=>
  obtain⟨j,want⟩:=p;simp only[wt] at h;split at h
  ·rename_i o' ho;split at h
   ·rename_i t htt;refine⟨t,by rw[ho];exact htt,?_⟩;split at h
    ·rename_i v hv;have hv:=ha _ _ hv;cases v with
     |bool c=>
      left
      cases c<;>cases want<;>simp at h<;>subst h<;>exact⟨_,hv,rfl⟩
     |tuple a=>
      simp only at h;split at h
      ·rename_i hl;have hl:=q7x hl;subst hl;simp at h
       right;exact⟨hv,h⟩
      ·simp at h
     |_=>simp at h
    ·simp at h
   ·simp at h
  ·simp at h
def sto(t:TT)(e:Env)(hp:q8d):Op->Option (Nat×Ob)
 | .store T x y=>(match ask t T TF.qS with
  |some n=>(match evC e x with
   |some (.ptr id k i off)=>(match hgC hp id with
    |some (.arr ty k2 rows)=>(match Nat.beq k k2,i,rows with
     |true,0,[row]=>(match evC e y with
      |some v=>(match vcC v with
       |some cs=>(match z8c n cs&&w2w cs&&Nat.ble (off+n) row.length with
        |true=>(match frc (row.take off++cs++row.drop (off+n)) with|some row'=>some (id,.arr ty k [row'])|none=>none)
        |false=>none)
       |none=>none)
      |none=>none)
     |_,_,_=>none)
    |_=>none)
   |_=>none)
  |none=>none)
 |_=>none
theorem w3t(ht:q7p K.P t){e:Env}{hp:q8d}(ha:Ag e S)(hh:AgH hp S){id:Nat}{ob:Ob}(h:sto t e hp op=some (id,ob))(hw:q2d ops S ⟨none,op,ty,pos,after,g⟩ true)
  (k:q1d K ops rest Q ⟨S.env,(id,ob)::S.hp,S.nx⟩):q1d K ops (⟨none,op,ty,pos,after,g⟩::rest) Q S:=by
 unfold sto at h;split at h
 ·split at h
  ·rename_i n hn;split at h
   ·rename_i hx;split at h
    ·rename_i ho;split at h
     ·rename_i hk;have hk:=co9 hk;subst hk;split at h
      ·rename_i v hy;split at h
       ·rename_i cs hc;split at h
        ·rename_i hb;simp only[as9] at hb;have hl:=q1p hb.1.1;subst hl;split at h
         ·rename_i row' hr;have hr:=z2e hr;simp at h;obtain⟨rfl,rfl⟩:=h;exact q0u cs _ (askS ht hn) hw (q0d ha hx) (q0d ha hy) (j4s hc) (z8s hb.1.2) (hh _ _ ho) rfl hb.2 (by rw[<-hr];rfl) k
         ·simp at h
        ·simp at h
       ·simp at h
      ·simp at h
     ·simp at h
    ·simp at h
   ·simp at h
  ·simp at h
 ·simp at h
def one(t:TT)(N:Nat)(ops:Array Oper)(o:Oper):St->Option St
 |⟨e,hp,nx⟩=>
  match wt ops e o.guard with
  |none=>none
  |some b=>(match b with
   |false=>(match o.dst with|some d=>(match Nat.blt d N with|true=>some ⟨(d,.con undef)::e,hp,nx⟩|false=>none)|none=>none)
   |true=>(match o.dst with
    |some d=>(match Nat.blt d N with
     |false=>none
     |true=>(match o.op with
      | .alloc T=>(match ask t T TF.qZ with
       |some (n,zs)=>(match frc (zs.map V.con) with|some cs=>some ⟨(d,.ptr nx n 0 0)::e,(nx,.arr T n [cs])::hp,nx+1⟩|none=>none)
       |none=>none)
      | .box T x=>(match ask t T TF.qS with
       |some n=>(match evC e x with
        |some v=>(match vcC v with
         |some cs=>(match z8c n cs&&w2w cs with|true=>some ⟨(d,.ptr nx n 0 0)::e,(nx,.arr T n [cs])::hp,nx+1⟩|false=>none)
         |none=>none)
        |none=>none)
       |none=>none)
      | .makeMap _ r=>(match r with|none=>some ⟨(d,.map nx)::e,(nx,.map [])::hp,nx+1⟩|some _=>none)
      |op=>(match val t e hp op with|some v=>some ⟨(d,v)::e,hp,nx⟩|none=>none)))
    |none=>(match sto t e hp o.op with|some (id,ob)=>some ⟨e,(id,ob)::hp,nx⟩|none=>none)))
theorem w8t(ht:q7p K.P t){o:Oper}(h:one t K.N ops o S=some S')(k:q1d K ops rest Q S'):q1d K ops (o::rest) Q S:=by
 have ha:Ag S.env S:=agE;have hh:AgH S.hp S:=agH;obtain⟨e,hp,nx⟩:=S;simp only at ha hh;simp only[one] at h;split at h
 ·simp at h
 ·rename_i hw;have hw:=z5m ha hw;split at h
  ·split at h
   ·rename_i d hd;split at h
    ·rename_i hN;simp at h;subst h;exact j2c hw hd hN k
    ·simp at h
   ·simp at h
  ·obtain⟨dst,op,ty,pos,after,g⟩:=o;cases dst with
   |some d=>
    simp only at h;split at h
    ·simp at h
    ·rename_i hN;split at h
     ·split at h
      ·rename_i n zs hz;obtain⟨z1,z2,z3⟩:=w6p ht hz;split at h
       ·rename_i cs hc;have hc:=z2e hc;subst hc;simp at h;subst h;exact v7r z1 z2 z3 hw hN k
       ·simp at h
      ·simp at h
     ·split at h
      ·split at h
       ·rename_i hv;split at h
        ·rename_i cs hc;split at h
         ·rename_i hb;simp only[as9] at hb;simp at h;subst h;have hl:=q1p hb.1;subst hl;exact q3r cs hw (q0d ha hv) (j4s hc) (z8s hb.2) hN k
         ·simp at h
        ·simp at h
       ·simp at h
      ·simp at h
     ·split at h
      ·simp at h;subst h;exact j2y hw hN k
      ·simp at h
     ·split at h
      ·rename_i v hv;simp at h;subst h;exact v7t ht ha hh hv hw hN k
      ·simp at h
   |none=>
    simp only at h;split at h
    ·rename_i hv;simp at h;subst h;exact w3t ht ha hh hv hw k
    ·simp at h
def stp(t:TT)(N:Nat):List It->St->Option (List It×St)
 | .c x::s,S=>
  (match x with
  | .seq x y=>some (.c x::.c y::s,S)
  | .skip=>some (s,S)
  | .scope x=>some (.c x::s,S)
  | .label _=>some (s,S)
  | .block id x=>some (.c x::.b id::s,S)
  | .region _ ops draw=>(match draw with|false=>some (.o ops ops.toList::s,S)|true=>none)
  | .exit i=>(match unw i s with|some s'=>some (s',S)|none=>none)
  | .cond c x y=>(match S with
   |⟨e,hp,nx⟩=>(match evC e c with
    |some (.con v)=>(match v with | .bool b=>(match b with|true=>some (.c x::s,⟨e,hp,nx⟩)|false=>some (.c y::s,⟨e,hp,nx⟩))|_=>none)
    |_=>none))
  |_=>none)
 | .b _::s,S=>some (s,S)
 | .o ops l::s,S=>(match l with|[]=>some (s,S)|o::l=>(match one t N ops o S with|some S'=>some (.o ops l::s,S')|none=>none))
 |_,_=>none
theorem w2t(ht:q7p K.P t)(h:stp t K.N s S=some (s',S'))(k:WG K Q s' S'):WG K Q s S:=by
 match s,h with
 |[],h=>simp[stp] at h
 | .j _::s,h=>simp[stp] at h
 | .b id::s,h=>simp[stp] at h;obtain⟨rfl,rfl⟩:=h;exact k
 | .o ops []::s,h=>simp[stp] at h;obtain⟨rfl,rfl⟩:=h;exact q1c k
 | .o ops (o::l)::s,h=>
  simp only[stp] at h;split at h
  ·rename_i S2 h2;simp at h;obtain⟨rfl,rfl⟩:=h;exact w8t ht h2 k
  ·simp at h
 | .c x::s,h=>
  simp only[stp] at h;split at h
  ·simp at h;obtain⟨rfl,rfl⟩:=h;exact y9d k
  ·simp at h;obtain⟨rfl,rfl⟩:=h;exact w2p k
  ·simp at h;obtain⟨rfl,rfl⟩:=h;exact w2d k
  ·simp at h;obtain⟨rfl,rfl⟩:=h;exact w4d k
  ·simp at h;obtain⟨rfl,rfl⟩:=h;exact w5d k
  ·split at h
   ·rename_i ops _;simp at h;obtain⟨rfl,rfl⟩:=h;exact v0r (l:=ops.toList) k
   ·simp at h
  ·split at h
   ·rename_i s2 h2;simp at h;obtain⟨rfl,rfl⟩:=h;exact w5p (j5s h2 k)
   ·simp at h
  ·obtain⟨e,hp,nx⟩:=S;simp only at h;split at h
   ·rename_i hv;split at h
    ·split at h
     ·simp at h;obtain⟨rfl,rfl⟩:=h;exact v1r (q0d (agE (S:=⟨e,hp,nx⟩)) hv) rfl k
     ·simp at h;obtain⟨rfl,rfl⟩:=h;exact v2r (q0d (agE (S:=⟨e,hp,nx⟩)) hv) rfl k
    ·simp at h
   ·simp at h
  ·simp at h
def run(t:TT)(N:Nat):Nat->List It->St->Option (List It×St)
 |0,s,S=>some (s,S)
 |n+1,s,S=>match stp t N s S with|some (s',S')=>run t N n s' S'|none=>none
theorem rn[ht:TC K t]:∀(n:Nat) {s:List It} {S:St},run t K.N n s S=some (s',S')->WG K Q s' S'->WG K Q s S
 |0,s,S,h,k=>by simp[run] at h;obtain⟨rfl,rfl⟩:=h;exact k
 |n+1,s,S,h,k=>by
  simp only[run] at h;split at h
  ·rename_i s2 S2 h2;exact w2t ht.h h2 (rn n h k)
  ·simp at h
theorem en{c:Code}(h:WG K Q [.c c] S):AWP K c Q S:=h
theorem fo{l:List Oper}(h:WG K Q (.o ops l::s) S):q1d K ops l (post K Q s) S:=h
theorem fa{c:Code}(h:WG K Q (.c c::s) S):AWP K c (post K Q s) S:=h
theorem q4e.env{e:Env}(h:∀t,get e t=get S.env t):q4e K S ⟨e,S.hp,S.nx⟩:=fun m β _ _ r=>⟨m,β,r.congr h (fun _=>rfl) rfl⟩
theorem v0c{x:It}(hx:(∃c,x=.c c)\/∃ops l,x=.o ops l)(hg:q4e K S S')(k:WG K Q (x::s) S'):WG K Q (x::s) S:=by
 rcases hx with ⟨c,rfl⟩|⟨ops,l,rfl⟩
 ·exact q6d hg k
 ·exact q7d hg k
theorem j6o{e:Env}{hp:q8d}{nx n:Nat}{c b:Bool}(hc:gtC e n=some (.con (.bool c)))(hb:c=b):q4e K ⟨e,hp,nx⟩ ⟨(n,.con (.bool b))::e,hp,nx⟩:=by
 refine q4e.env (S:=⟨e,hp,nx⟩) (fun t=>?_);rw[q4k];split
 ·rename_i h;subst h;rw[q4p hc,hb]
 ·rfl
variable{R:Type}{r:R}
theorem spO{A B:Option R}{c:Bool}{e:Env}{hp:q8d}{nx:Nat}{l:List Oper}(n:Nat)(h:(if c=true then A else B)=some r)(hc:gtC e n=some (.con (.bool c)))
  (kt:c=true->A=some r->WG K Q (.o ops l::s) ⟨(n,.con (.bool true))::e,hp,nx⟩) (kf:c=false->B=some r->WG K Q (.o ops l::s) ⟨(n,.con (.bool false))::e,hp,nx⟩):
  WG K Q (.o ops l::s) ⟨e,hp,nx⟩:=by
 cases c with
 |true=>exact v0c (.inr ⟨_,_,rfl⟩) (j6o hc rfl) (kt rfl (by simpa using h))
 |false=>exact v0c (.inr ⟨_,_,rfl⟩) (j6o hc rfl) (kf rfl (by simpa using h))
theorem spC{A B:Option R}{c:Bool}{e:Env}{hp:q8d}{nx:Nat}{x y:Code}{n:Nat}(h:(if c=true then A else B)=some r)(hc:gtC e n=some (.con (.bool c)))
  (kt:c=true->A=some r->WG K Q (.c x::s) ⟨e,hp,nx⟩) (kf:c=false->B=some r->WG K Q (.c y::s) ⟨e,hp,nx⟩):
  WG K Q (.c (.cond (.tmp n) x y)::s) ⟨e,hp,nx⟩:=
 z8y c (q4p hc) (fun hb=>kt hb (by subst hb;simpa using h)) (fun hb=>kf hb (by subst hb;simpa using h))
theorem spL{c:Bool}{e:Env}{hp:q8d}{nx:Nat}{x y:Code}{n:Nat}(hc:gtC e n=some (.con (.bool c)))
  (kt:c=true->WG K Q (.c x::s) ⟨e,hp,nx⟩) (kf:c=false->WG K Q (.c y::s) ⟨e,hp,nx⟩):WG K Q (.c (.cond (.tmp n) x y)::s) ⟨e,hp,nx⟩:=
 z8y c (q4p hc) kt kf
theorem fxO{c b:Bool}{e:Env}{hp:q8d}{nx:Nat}{l:List Oper}(n:Nat)(hb:c=b)(hc:gtC e n=some (.con (.bool c)))(k:WG K Q (.o ops l::s) ⟨(n,.con (.bool b))::e,hp,nx⟩):
  WG K Q (.o ops l::s) ⟨e,hp,nx⟩:=v0c (.inr ⟨_,_,rfl⟩) (j6o hc hb) k
theorem fxC{c b:Bool}{e:Env}{hp:q8d}{nx:Nat}{x:Code}(n:Nat)(hb:c=b)(hc:gtC e n=some (.con (.bool c)))(k:WG K Q (.c x::s) ⟨(n,.con (.bool b))::e,hp,nx⟩):
  WG K Q (.c x::s) ⟨e,hp,nx⟩:=v0c (.inl ⟨_,rfl⟩) (j6o hc hb) k
def Jn{α:Type}(K:Ctx)(T:α->St)(G:α->Prop)(S:St):Prop:=∃p,G p/\q4e K S (T p)
theorem jC{α:Type}{x:Code}(T:α->St)(G:α->Prop)(h:WG K Q (.c x::.j (Jn K T G)::s) S)(k:∀p,G p->WG K Q s (T p)):WG K Q (.c x::s) S:=by
 intro m β w a r;refine wpIn_mono (h m β w a r) ?_
 rintro e _ _ ⟨hp,S',m',β',q,r'⟩
 cases e with
 |normal=>
  obtain⟨p,hg,hgh⟩:=q;obtain⟨m2,β2,r2⟩:=hgh _ _ _ _ r';exact⟨rfl,T p,m2,β2,k p hg,r2⟩
 |_=>exact⟨hp,S',m',β',q,r'⟩
theorem lC{α:Type}{x:Code}(T:α->St)(G:Nat->α->Prop)(h0:∀p,¬G 0 p)(n:Nat)(p:α)(h:G n p)(hg:q4e K S (T p))
  (round:∀n p,G (n+1) p->WG K Q (.c x::.j (Jn K T (G n))::s) (T p)):WG K Q (.c (.loop x)::s) S:=by
 refine q6d hg ?_
 clear hg
 induction n generalizing p with
 |zero=>exact absurd h (h0 p)
 |succ n ih=>
  refine v4m ?_;intro m β w a r;refine wpIn_mono (round n p h m β w a r) ?_
  rintro e a' w' ⟨hp,S',m',β',q,r'⟩
  cases e with
  |normal=>
   obtain⟨p',hg,hgh⟩:=q;obtain⟨m2,β2,r2⟩:=hgh _ _ _ _ r';exact⟨rfl,T p',m2,β2,ih p' hg,r2⟩
  |_=>exact⟨hp,S',m',β',q,r'⟩
end
end Go.Pv
