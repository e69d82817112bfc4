/- Part of the proof. -/
import Derived.Test.YtelmfadihfcgnaaGreatDoorFDD
import Derived.RangeFuncSeq
set_option linter.unusedSimpArgs false
set_option linter.unusedVariables false
namespace Go.Pv
open Go
section
variable{K:dE}{S:St}
variable{m:bZ}{β:bw}{w:World}{a:Act}
theorem Ir{B:Nat->Prop}{e:Nat}{row:List V}{v:Value}{id0:Nat}(h:gU m w B (.dpt e row) v):
  ∃(loc:Option (Nat×pI)) (Bn:Nat->Prop),(∀β':bw,β' id0=some loc->bP m β' (.ptr id0 row.length 0 0) v)/\(∀x,Bn x->B x)/\(∀b' c',loc=some (b',c')->B b'/\¬Bn b')/\∀β':bw,bI m β' w Bn (some loc) (.arr e row.length [row]):=by
 cases h with
 |imm h=>cases h
 | @pt _ b n off _ _ arr bl f hb hbb hB hw hs hn hcap hf h=>
  refine⟨some (b,⟨n,off⟩),fun x=>∃p,bl p x,fun β' h=>?_,fun x ⟨p,hx⟩=>hB.1 p x hx,fun b2 c2 h=>?_,fun β'=>?_⟩
  ·have:=bP.ptr (m:=m) (k:=row.length) (i:=0) (off:=0) h
   grind
  ·grind
  ·refine⟨arr,bl,hw,hs,by grind,hcap,by simp,⟨fun p x hx=>⟨p,hx⟩,hB.2⟩,fun i2 j2 row2 c2 h1 h2=>?_⟩;cases i2 with
   |succ i2=>simp at h1
   |zero=>
    simp only[bj9,av9] at h1;subst h1;obtain⟨f1,f2⟩:=hf j2 c2 h2;simp only[Nat.zero_mul,by8];exact⟨_,f1,.inr (h j2 c2 h2),f2⟩
theorem Ci(r:cw K m β w a S){e k id2:Nat}{row:List V}{v:Value}(ho2:ao S.hp id2=.arr e k [row])(hkp:jD row)(hv:bP m β (.ptr id2 k 0 0) v):
  gU m w (fun x=>β.hid id2 x\/∃c,β id2=some (some (x,c))) (.dpt e row) v:=by
 have hl2:ao S.hp id2≠.dead:=by rw[ho2];simp
 have hown2:=r.own id2;rw[ho2] at hown2;cases hv with
 |imm h=>cases h
 | @ptr _ _ _ _ b2 cap2 hb2=>
  rw[hb2] at hown2;obtain⟨arr2,bl2,p1,p2,p3,p4,p5,p6,p7⟩:=hown2;have hk:=p5 row (by simp);have e1:Value.pointer (some ⟨b2,cap2.off+(0*k+0),none⟩)=.pointer (some ⟨b2,cap2.off,none⟩):=by simp
  rw[e1]
  have g:∀(j:Nat) (c:V),row[j]? = some c->∃v,arr2[cap2.off+j]? = some v/\fB m β w (bl2 j) c v/\v.oneCell'=true:=fun j c hj=>by
   have:=p7 0 j row c rfl hj
   grind
  refine .pt (n:=cap2.n) bl2 (fun p=>arr2.getD (cap2.off+p) undef) (.inr ⟨cap2,hb2⟩) (fun p hx=>?_) ⟨fun p x hx=>.inl (p6.1 p x hx),p6.2⟩ p1 (by grind) (by grind) p4 (fun j c hj=>?_) (fun j c hj=>?_)
  ·exact(r.hid id2 b2 hl2 (p6.1 p b2 hx)).ne id2 b2 cap2 hl2 hb2 Y
  ·obtain⟨u,u1,_,u3⟩:=g j c hj<;>simp_all
  ·obtain⟨u,u1,u2,_⟩:=g j c hj;have:arr2.getD (cap2.off+j) undef=u:=by simp[bh8,u1]
   simp only[this];rcases u2 with h|h
   ·exact .imm (hkp c (aw9 hj) _ _ _ h)
   ·exact h
theorem yg(id i nx:Nat){es:List (Value×V)}{kv:Value}{e:Nat}{row:List V}(ho:ao S.hp id=.map es)(hi:es[i]? = some (kv,.dpt e row))(hnx:S.nx=nx):
  bb K S ⟨S.env,(id,.map (es.set i (kv,.ptr nx row.length 0 0)))::(nx,.arr e row.length [row])::S.hp,nx+1⟩:=by
 subst hnx;intro m β w a r;have hfree:β S.nx=none:=r.nx _ (ae9 _);have hl0:ao S.hp id≠.dead:=by rw[ho];simp
 obtain⟨b,cap,hb⟩:=nX r ho;have hne0:id≠S.nx:=fun h=>by grind
 have hown:=r.own id;rw[ho,hb] at hown;obtain⟨ents,clock,bl,q1,q2,q6,q7⟩:=hown;have hlt:i<ents.size:=by rw[<-q2];exact(ba8.1 hi).1
 obtain⟨v1,v2⟩:=q7 i _ ents[i] hi (az9 hlt);generalize hv:ents[i].val=v at v2;obtain⟨loc,Bn,hvr,hBn,hloc,hobj⟩:=Ir (wJ rfl v2)
 obtain⟨m',β',rr⟩:=r.takeG S.nx (S.nx+1) hfree (fun q hq e=>by have:=(r.pin q hq).1;omega) (ak9 _) (ak8 _) hl0 hne0 (bl i) Bn loc (.map (es.set i (kv,.ptr S.nx row.length 0 0))) (.arr e row.length [row]) (fun x hx=>q6.1 _ x hx) hBn hloc hobj (fun β' hle en=>by
  rw[hb];refine⟨ents,clock,fun p=>if p=i then (fun _=>False) else bl p,q1,by grind,⟨fun p x hx=>?_,fun p p' x hx hx'=>?_⟩,fun i2 p2 en2 h1 h2=>?_⟩
  ·dsimp only at hx;split at hx
   ·grind
   ·rename_i hne;exact⟨q6.1 p x hx,fun h=>hne (q6.2 _ _ x hx h)⟩
  ·dsimp only at hx hx';split at hx
   ·grind
   ·split at hx'
    ·grind
    ·exact q6.2 _ _ x hx hx'
  ·rw[bg9] at h1;by_cases e2:i=i2
   ·subst e2;rw[if_pos rfl,if_pos (by grind)] at h1;simp only[av9] at h1;subst h1;rw[az9 hlt,av9] at h2;subst h2;exact⟨v1,.inl (by rw[hv];exact hvr β' en)⟩
   ·rw[if_neg e2] at h1;obtain⟨u1,u2⟩:=q7 i2 p2 en2 h1 h2;refine⟨u1,?_⟩
    show fB _ _ _ (if _ then _ else _) _ _
    rw[if_neg (Ne.symm e2)];exact u2.mono (bZ.le_refl _) hle (fun _ h=>h) (fun _ _=>Y))
 grind
theorem ul(id i id2:Nat){es:List (Value×V)}{kv:Value}{e k:Nat}{row:List V}(ho:ao S.hp id=.map es)(hi:es[i]? = some (kv,.ptr id2 k 0 0))(ho2:ao S.hp id2=.arr e k [row])(hne:Nat.beq id id2=false)(hkp:jD row):
  bb K S ⟨S.env,(id,.map (es.set i (kv,.dpt e row)))::(id2,.dead)::S.hp,S.nx⟩:=by
 have hne:id≠id2:=fun h=>by grind
 intro m β w a r;have hl0:ao S.hp id≠.dead:=by rw[ho];simp
 have hl2:ao S.hp id2≠.dead:=by rw[ho2];simp
 obtain⟨b,cap,hb⟩:=nX r ho;have hown:=r.own id;rw[ho,hb] at hown;obtain⟨ents,clock,bl,q1,q2,q6,q7⟩:=hown;have hlt:i<ents.size:=by rw[<-q2];exact(ba8.1 hi).1
 obtain⟨v1,v2⟩:=q7 i _ ents[i] hi (az9 hlt);have v2:=v2.v rfl;have hd:=Ci r ho2 hkp v2
 let Bn:Nat->Prop:=fun x=>β.hid id2 x\/∃c,β id2=some (some (x,c))
 have hBd:∀x,Bn x->¬β.hid id x:=by
  intro x hx hh;rcases hx with hx|⟨c,hx⟩
  ·exact hne ((r.hid id2 x hl2 hx).un id hl0 hh)
  ·exact(r.hid id x hl0 hh).ne id2 x c hl2 hx Y
 obtain⟨m',β',rr⟩:=r.untake hl0 hl2 hne (.map (es.set i (kv,.dpt e row))) (fun β' hle=>by
  rw[hb];refine⟨ents,clock,fun p=>if p=i then Bn else bl p,q1,by grind,⟨fun p x hx=>?_,fun p p' x hx hx'=>?_⟩,fun i2 p2 en2 h1 h2=>?_⟩
  ·dsimp only at hx;split at hx
   ·grind
   ·exact .inl (q6.1 p x hx)
  ·dsimp only at hx hx';split at hx<;>split at hx'
   ·grind
   ·exact absurd (q6.1 _ x hx') (hBd x hx)
   ·exact absurd (q6.1 _ x hx) (hBd x hx')
   ·exact q6.2 _ _ x hx hx'
  ·rw[bg9] at h1;by_cases e2:i=i2
   ·subst e2;rw[if_pos rfl,if_pos (by grind)] at h1;simp only[av9] at h1;subst h1;rw[az9 hlt,av9] at h2;subst h2;refine⟨v1,?_⟩
    show fB _ _ _ (if _ then _ else _) _ _
    rw[if_pos rfl];exact .inr hd
   ·rw[if_neg e2] at h1;obtain⟨u1,u2⟩:=q7 i2 p2 en2 h1 h2;refine⟨u1,?_⟩
    show fB _ _ _ (if _ then _ else _) _ _
    rw[if_neg (Ne.symm e2)];exact u2.mono (bZ.le_refl _) hle (fun _ h=>h) (fun _ _=>Y))
 grind
end
end Go.Pv
namespace Go.Pv
open Go
section
variable{K:dE}{Q:cG}{S:St}
variable{ops:Array Oper}{rest:List Oper}
end
section
variable{κ γ α:Type}[DecidableEq κ]
section
variable{K:dE}{Q:cG}{S:St}
end
end
end Go.Pv
namespace Go.Pv
open Go
theorem bz{α:Type}{enc:α->Value×V}[i:P5 enc]{l:List α}:∀p,p∈l.map enc->ef p.2:=by
 intro p hp;obtain⟨x,_,rfl⟩:=bb9.1 hp;exact i.h x
end Go.Pv
namespace Go.Pv
open Go
def j8{τ:Type}(enc:τ->Value×V):Option (List τ)->V
 |none=>.con (.map none)
 |some l=>.imap (l.map enc)
theorem eV{τ:Type}{enc:τ->Value×V}:∀o:Option (List τ),aN (j8 enc o)
 |none=>aN.con _
 |some _=>aN.imap _
theorem He{τ:Type}{enc:τ->Value×V}:∀o:Option (List τ),dL (j8 enc o)=true
 |none=>rfl
 |some _=>rfl
theorem ru{τ:Type}{enc:τ->Value×V}:∀o:Option (List τ),(j8 enc o).deep=false
 |none=>rfl
 |some _=>rfl
section
variable{K:dE}{Q:cG}{S:St}
variable{ops:Array Oper}{rest:List Oper}{ty:TypeId}{pos:String}{after:Array Edge}{g:Option (Nat×Bool)}
theorem rV{τ:Type}{enc:τ->Value×V}{o:Option (List τ)}{d:Nat}{x y:Operand}{T T':TypeId}(hT:zz K.P T=true)(hw:aT ops S ⟨some d,.binOp .eql T x y T',ty,pos,after,g⟩ true)
  (hx:cv K S x=j8 enc o) (hy:cv K S y=.con (.map none)) (hN:Nat.blt d K.N=true)
  (k:aD K ops rest Q (S.put d (.con (.bool o.isNone)))):aD K ops (⟨some d,.binOp .eql T x y T',ty,pos,after,g⟩::rest) Q S:=
 bi _ hw hN (fun m β w a r=>by
  have h:=r.reads x;rw[hx] at h
  have key:∃q,a.eval x=.map q/\q.isNone=o.isNone:=by
   cases o with
   |none=>exact⟨none,h.of_con,rfl⟩
   |some l=>
    generalize a.eval x=u at h;cases h with
    |imm h=>cases h with|imap=>grind
  obtain⟨q,ho,hb⟩:=key;have hr:=tD (P:=K.P) (w:=w) (x:=x) (y:=y) false hT q;refine⟨.bool o.isNone,?_,.imm (.con _)⟩;simp only[execOp,ho,r.con hy]
  grind [bH]) k
theorem yG{κ τ:Type}{enc:κ×τ->Value×V}{ev:τ->V}{o:Option (List (κ×τ))}{d:Nat}{T k e:TypeId}{x y:Operand}{good:Value->Prop}{kv zv:Value}(rs:Option τ)(zd dv:V)(hT:fq K.P T k e=true)(hK:kX K.P k good)
  (hz:(K.P.info? e).bind (·.zero)=some zv) (hzd:∀m,ct m zd zv)
  (hw:aT ops S ⟨some d,.lookup T x y false,ty,pos,after,g⟩ true) (hx:cv K S x=j8 enc o) (hy:iL K S y kv) (hg:good kv) (hges:∀p,p∈(o.getD []).map enc->good p.1)
  (hl:jA kv ((o.getD []).map enc) (rs.map ev)) (hd:(rs.map ev).getD zd=dv) (hN:Nat.blt d K.N=true) (hdd:dv.deep=false)
  (kk:aD K ops rest Q (S.put d dv)):aD K ops (⟨some d,.lookup T x y false,ty,pos,after,g⟩::rest) Q S:=by
 cases o with
 |none=>
  have:rs.map ev=none:=hl.none_of (fun p hp=>by simp at hp);rw[this] at hd;subst hd;exact uP zd hT hK hz hzd hw hx hy hg hN kk
 |some l=>exact cQ (rs.map ev) zd dv hT hK hz hzd hw hx .imm hy hg hges hl hd hN kk hdd
def qJ(P:Program)(T:TypeId):Bool:=match P.underlying T with|some (.interface _)=>false|some _=>true|none=>false
theorem zy{P:Program}{T:TypeId}(h:qJ P T=true):∃d,P.underlying T=some d/\∀x,d≠.interface x:=by
 grind [qJ]
theorem Ek{P:Program}{T xT:TypeId}{v:Value}{w:World}(h:qJ P T=true):(Instr.typeAssert (.iface T v) xT T true).run P w=.ok (.tuple #[v,.bool true]) w:=by
 obtain⟨d,h1,h2⟩:=zy h<;>simp_all[Instr.typeAssert,run_underlying]
theorem Em{P:Program}{T T' xT:TypeId}{v zv:Value}{w:World}(h:qJ P T=true)(hne:T'≠T)(hz:(P.info? T).bind (·.zero)=some zv):(Instr.typeAssert (.iface T' v) xT T true).run P w=.ok (.tuple #[zv,.bool false]) w:=by
 obtain⟨d,h1,h2⟩:=zy h
 have hzr:(zeroValue T).run P w=.ok zv w:=by
  cases hi:P.info? T with
  |none=>grind
  |some i=>
   simp_all[zeroValue,run_typeInfo]
 simp_all[Instr.typeAssert,run_underlying]
theorem fO{τ:Type}{enc:τ->List V}{y:τ}{k:KV}{d:Nat}{T xT:TypeId}{x:Operand}(hT:qJ K.P T=true)(hy:iw enc T k=some y)
  (hw:aT ops S ⟨some d,.typeAssert x xT T true,ty,pos,after,g⟩ true) (hx:cv K S x=.ifc k.t k.d) (hN:Nat.blt d K.N=true)
  (kk:aD K ops rest Q (S.put d (.tup [.agg (enc y),.con (.bool true)]))):aD K ops (⟨some d,.typeAssert x xT T true,ty,pos,after,g⟩::rest) Q S:=by
 obtain⟨e1,e2⟩:=vS hy;refine bi _ hw hN (fun m β w a r=>?_) kk;have h:=r.reads x;rw[hx,e1,e2] at h
 obtain⟨v,hv,hd⟩:∃v,a.eval x=.iface T v/\ct m (.agg (enc y)) v:=by
  generalize a.eval x=u at h;cases h with
  |imm h=>cases h with|ifc h=>exact⟨_,rfl,h⟩
 refine⟨.tuple #[v,.bool true],?_,.imm (.tup Y fun i c u hi hu=>?_)⟩
 ·simp only[execOp,hv];exact bH (Ek hT)
 ·match i with
  |0=>simp at hi hu;subst hi;subst hu;exact hd
  |1=>simp at hi hu;subst hi;subst hu;exact .con _
  |i+2=>simp at hi
theorem fQ{k:KV}{d:Nat}{T xT:TypeId}{x:Operand}{zv:Value}(zd:V)(hT:qJ K.P T=true)(hne:Nat.beq k.t T=false)(hz:(K.P.info? T).bind (·.zero)=some zv)(hzd:∀m,ct m zd zv)
  (hw:aT ops S ⟨some d,.typeAssert x xT T true,ty,pos,after,g⟩ true) (hx:cv K S x=.ifc k.t k.d) (hN:Nat.blt d K.N=true)
  (kk:aD K ops rest Q (S.put d (.tup [zd,.con (.bool false)]))):aD K ops (⟨some d,.typeAssert x xT T true,ty,pos,after,g⟩::rest) Q S:=by
 refine bi _ hw hN (fun m β w a r=>?_) kk;have h:=r.reads x;rw[hx] at h
 obtain⟨v,hv⟩:∃v,a.eval x=.iface k.t v:=by
  generalize a.eval x=u at h;cases h with
  |imm h=>cases h with|ifc h=>exact⟨_,rfl⟩
 refine⟨.tuple #[zv,.bool false],?_,.imm (.tup Y fun i c u hi hu=>?_)⟩
 ·simp only[execOp,hv];exact bH (Em hT (cg8 hne) hz)
 ·match i with
  |0=>simp at hi hu;subst hi;subst hu;exact hzd m
  |1=>simp at hi hu;subst hi;subst hu;exact .con _
  |i+2=>simp at hi
theorem yK{d:Nat}{x:Operand}{src dst:TypeId}{k':IntKind}{n:Int}(hd:kA K.P dst=true)(hs:∃t,K.P.underlying src=some t)
  (hw:aT ops S ⟨some d,.convert src dst x,ty,pos,after,g⟩ true) (hx:cv K S x=.con (.int k' n)) (hN:Nat.blt d K.N=true)
  (kk:aD K ops rest Q (S.put d (.con (str (Utf8.encode n).data.toList)))):aD K ops (⟨some d,.convert src dst x,ty,pos,after,g⟩::rest) Q S:=
 bi _ hw hN (fun m β w a r=>⟨.string (Utf8.encode n),by
  obtain⟨t,ht⟩:=hs;have hd':K.P.underlying dst=some .string:=by unfold kA at hd;grind
  simp only[execOp,r.con hx]
  simp_all[run_convert_int_string],.imm (.con _)⟩) kk
def F8(P:Program)(T:TypeId):Bool:=match P.underlying T with|some (.pointer e)=>Nat.beq e (P.pointee T)|_=>false
theorem AS{d id k i off:Nat}{x y:Operand}{T T':TypeId}(hT:F8 K.P T=true)(hw:aT ops S ⟨some d,.binOp .eql T x y T',ty,pos,after,g⟩ true)
  (hx:cv K S x=.ptr id k i off) (hy:cv K S y=.con (.pointer none)) (hN:Nat.blt d K.N=true)
  (kk:aD K ops rest Q (S.put d (.con (.bool false)))):aD K ops (⟨some d,.binOp .eql T x y T',ty,pos,after,g⟩::rest) Q S:=
 bi _ hw hN (fun m β w a r=>by
  have h:=r.reads x;rw[hx] at h
  obtain⟨q,hq⟩:∃q,a.eval x=.pointer (some q):=by
   generalize a.eval x=u at h;cases h with
   |imm h=>cases h
   |ptr h=>grind
  have hu:K.P.underlying T=some (.pointer (K.P.pointee T)):=by
   unfold F8 at hT;split at hT
   ·simp_all
   ·cases hT
  refine⟨.bool false,?_,.imm (.con _)⟩;simp only[execOp,hq,r.con hy]
  simp_all[eqGuard,binOp,run_equal_pointer_nil]) kk
theorem AU{d:Nat}{x y:Operand}{T T':TypeId}(hT:F8 K.P T=true)(hw:aT ops S ⟨some d,.binOp .eql T x y T',ty,pos,after,g⟩ true)
  (hx:cv K S x=.con (.pointer none)) (hy:cv K S y=.con (.pointer none)) (hN:Nat.blt d K.N=true)
  (kk:aD K ops rest Q (S.put d (.con (.bool true)))):aD K ops (⟨some d,.binOp .eql T x y T',ty,pos,after,g⟩::rest) Q S:=
 bi _ hw hN (fun m β w a r=>by
  have hu:K.P.underlying T=some (.pointer (K.P.pointee T)):=by
   unfold F8 at hT;split at hT
   ·simp_all
   ·cases hT
  refine⟨.bool true,?_,.imm (.con _)⟩;simp only[execOp,r.con hx,r.con hy]
  simp_all[eqGuard,binOp,run_equal_pointer_nil]) kk
end
section
variable{κ τ:Type}[DecidableEq κ]
def sk(e:Nat)(enc:τ->List V):Option τ->V
 |none=>.con (.pointer none)
 |some x=>.dpt e (enc x)
def holeP(E:κ×Option τ->Value×V)(o:V)(k0:κ):List (κ×Option τ)->List (Value×V)
 |[]=>[]
 |p::xs=>if p.1=k0 then ((E p).1,o)::xs.map E else E p::holeP E o k0 xs
variable(E:κ×Option τ->Value×V)(kf:κ->Value)(enc:τ->List V)(e:Nat)(hE:∀p,E p=(kf p.1,sk e enc p.2))(k0:κ)
theorem Am(o:V)(hE:∀p,E p=(kf p.1,sk e enc p.2))(x:τ):∀xs:List (κ×Option τ),aY xs k0=some (some x)->∃i,(xs.map E)[i]? = some (kf k0,.dpt e (enc x))/\holeP E o k0 xs=(xs.map E).set i (kf k0,o)
 |[],h=>by simp[aY] at h
 |p::xs,h=>by
  simp only[holeP];by_cases hp:p.1=k0
  ·rw[if_pos hp];rw[aY,if_pos hp] at h;refine⟨0,?_,?_⟩
   ·simp only[bh9,bj9,hE,hp];rw[ah8 h];rfl
   grind
  ·rw[if_neg hp];rw[aY,if_neg hp] at h;obtain⟨i,h1,h2⟩:=Am o hE x xs h;exact⟨i+1,by grind,by simp[h2]⟩
theorem An(o:V)(hE:∀p,E p=(kf p.1,sk e enc p.2))(y:τ):∀xs:List (κ×Option τ),(aY xs k0).isSome=true->∃i,(holeP E o k0 xs)[i]? = some (kf k0,o)/\(cK xs k0 (some y)).map E=(holeP E o k0 xs).set i (kf k0,.dpt e (enc y))
 |[],h=>by simp[aY] at h
 |p::xs,h=>by
  obtain⟨q,v⟩:=p;simp only[holeP,cK];by_cases hp:q=k0
  ·rw[if_pos hp,if_pos hp];exact⟨0,by grind,by simp only[bh9,List.set_cons_zero,hE];rfl⟩
  ·rw[if_neg hp,if_neg hp];rw[aY,if_neg hp] at h;obtain⟨i,h1,h2⟩:=An o hE y xs h;exact⟨i+1,by grind,by simp[h2]⟩
theorem ug(o:V)(hE:∀p,E p=(kf p.1,sk e enc p.2))(hk:∀a b,kf a=kf b->a=b):∀xs:List (κ×Option τ),(aY xs k0).isSome=true->jA (kf k0) (holeP E o k0 xs) (some o)
 |[],h=>by simp[aY] at h
 |p::xs,h=>by
  simp only[holeP];by_cases hp:p.1=k0
  ·rw[if_pos hp,show(E p).1=kf k0 by rw[hE,hp]];exact .here
  ·rw[if_neg hp];rw[aY,if_neg hp] at h;rw[hE p];exact .there (fun e=>hp (hk _ _ e)) (ug o hE hk xs h)
theorem tZ(hE:∀p,E p=(kf p.1,sk e enc p.2))(hk:∀a b,kf a=kf b->a=b):∀xs:List (κ×Option τ),aY xs k0=none->jA (kf k0) (xs.map E) none
 |[],_=>.nil
 |p::xs,h=>by
  rw[bh9,hE p];by_cases hp:p.1=k0
  ·simp_all[aY]
  ·rw[aY,if_neg hp] at h;exact .there (fun e=>hp (hk _ _ e)) (tZ hE hk xs h)
theorem v8(o:V)(v:Option τ)(hE:∀p,E p=(kf p.1,sk e enc p.2))(hk:∀a b,kf a=kf b->a=b):∀xs:List (κ×Option τ),aY xs k0=none->kq (kf k0) o (xs.map E) (holeP E o k0 (cK xs k0 v))
 |[],_=>by simp only[cK,holeP,ao9,if_pos,hE];exact .nil
 |p::xs,h=>by
  obtain⟨q,u⟩:=p;by_cases hp:q=k0
  ·simp_all[aY]
  ·rw[aY,if_neg hp] at h;simp only[cK,if_neg hp,holeP,bh9];rw[hE (q,u)];exact .there (fun e=>hp (hk _ _ e)) (v8 o v hE hk xs h)
theorem ui(o:V){good:Value->Prop}(hg:∀p,good (E p).1):∀(xs:List (κ×Option τ)) (p:Value×V),p∈holeP E o k0 xs->good p.1
 |[],p,h=>by simp[holeP] at h
 |q::xs,p,h=>by
  simp only[holeP] at h;split at h
  ·grind
  ·rcases aq9.1 h with h|h
   ·grind
   ·exact ui o hg xs p h
theorem ae.holeP{Yo:Hy}[md Yo]{o o':V}(ho:jJ Yo o o')(hk:∀p,jJ Yo (E p).2 (E p).2):∀xs:List (κ×Option τ),ae Yo (.map (holeP E o k0 xs)) (.map (Go.Pv.holeP E o' k0 xs))
 |[]=>⟨rfl,fun i p p' h=>by simp[Go.Pv.holeP] at h⟩
 |q::xs=>by
  have same:∀(l:List (κ×Option τ)) (i:Nat) (p p':Value×V),(l.map E)[i]? = some p->(l.map E)[i]? = some p'->p.1=p'.1/\jJ Yo p.2 p'.2:=fun l i p p' h1 h2=>by
   rw[h1,av9] at h2;subst h2;obtain⟨z,_,rfl⟩:=bb9.1 (aw9 h1);exact⟨Y,hk z⟩
  obtain⟨g1,g2⟩:=ae.holeP ho hk xs;simp only[Go.Pv.holeP];split
  ·refine⟨by simp,fun i p p' h1 h2=>?_⟩;cases i with
   |zero=>simp at h1 h2;subst h1;subst h2;exact⟨Y,ho⟩
   |succ i=>simp only[bn9] at h1 h2;exact same xs i p p' h1 h2
  ·refine⟨by simp[g1],fun i p p' h1 h2=>?_⟩;cases i with
   |zero=>simp at h1 h2;subst h1;subst h2;exact⟨Y,hk q⟩
   |succ i=>simp only[bn9] at h1 h2;exact g2 i p p' h1 h2
end
section
variable{K:dE}{S:St}
variable{κ τ:Type}[DecidableEq κ]
theorem Ar(id nx:Nat){xs:List (κ×Option τ)}{k0:κ}{x:τ}(E:κ×Option τ->Value×V)(kf:κ->Value)(enc:τ->List V)(e k:Nat)(hE:∀p,E p=(kf p.1,sk e enc p.2))(hlen:(enc x).length=k)
  (hs:aY xs k0=some (some x)) (ho:ao S.hp id=.map (xs.map E)) (hnx:S.nx=nx):
  bb K S ⟨S.env,(id,.map (holeP E (.ptr nx k 0 0) k0 xs))::(nx,.arr e k [enc x])::S.hp,nx+1⟩:=by
 subst hlen;obtain⟨i,h1,h2⟩:=Am E kf enc e k0 (.ptr nx (enc x).length 0 0) hE x xs hs
 grind [yg]
theorem B7(id id2:Nat){xs:List (κ×Option τ)}{k0:κ}{y:τ}(E:κ×Option τ->Value×V)(kf:κ->Value)(enc:τ->List V)(e k:Nat)(hE:∀p,E p=(kf p.1,sk e enc p.2))
  (hs:(aY xs k0).isSome=true) (ho:ao S.hp id=.map (holeP E (.ptr id2 k 0 0) k0 xs)) (ho2:ao S.hp id2=.arr e k [enc y]) (hne:Nat.beq id id2=false) (hi:jD (enc y)):
  bb K S ⟨S.env,(id,.map ((cK xs k0 (some y)).map E))::(id2,.dead)::S.hp,S.nx⟩:=by
 obtain⟨i,h1,h2⟩:=An E kf enc e k0 (.ptr id2 k 0 0) hE y xs hs
 grind [ul]
end
section
variable{α τ:Type}
def Rf(P:Program)(l:Nat)(k:Nat)(hp0:aJ)(m0:bZ)(β0:bw)(w0:World)(hpf:α->aJ)(enc:τ->V)(R:α->τ->Option α):Prop:=
 ∀(p:α) (x:τ) (r:α) (m:bZ) (β:bw) (w:World) (v:Value),R p x=some r->r8 m0 β0 w0 k hp0 m β w k (hpf p)->ct m (enc x) v->
  YieldAt Fence.wide 0 P l #[v] w fun e w'=>e=.returned (.bool true)/\∃m' β',r8 m β w k (hpf p) m' β' w' k (hpf r)
abbrev yV(l:Nat):V:=.con (.func (.yield l) #[] #[])
def JB(gl:Gl)(P:Program)(f:FuncId)(first:List V)(k:Nat)(hpf:α->aJ)(enc:τ->V)(R:α->τ->Option α)(p0 pE:α):Prop:=
 ∀(m:bZ) (β:bw) (w:World) (vs:Array Value) (l:Nat),(∀(b:Nat) o,m b=some o->w.heap[b]? = some o)->gT gl m->mn m β first vs->JD m β w k (hpf p0)->
  Rf P l k (hpf p0) m β w hpf enc R->Calls P f (vs++#[.func (.yield l) #[] #[]]) w fun e w'=>∃v m' β',e=.returned v/\r8 m β w k (hpf p0) m' β' w' k (hpf pE)
end
section
variable{K:dE}{Q:cG}{S:St}{s:List It}
variable{m:bZ}{β:bw}{w:World}{a:Act}
variable{ops:Array Oper}{rest:List Oper}{ty:TypeId}{pos:String}{after:Array Edge}{g:Option (Nat×Bool)}
variable{α τ:Type}
theorem BV{gl:Gl}{P:Program}{f:FuncId}{fn:Func}{c:Code}{N k:Nat}{first:List V}{hpf:α->aJ}{enc:τ->V}{R:α->τ->Option α}{p0 pE:α}(hf:P.funcs[f]? = some fn)(hb:fn.body=some c)(hN:fn.ntmps=N)
  (hl:fn.results=#[]) (ha:Nat.ble (first.length+1) N=true) (env:Nat->cE) (henv:∀l,gL 0 (first++[yV l])=env l)
  (h:∀(w0:World) (m0:bZ) (β0:bw) (hg:gT gl m0) (l:Nat),Rf P l k (hpf p0) m0 β0 w0 hpf enc R->jF (rc gl P N k (hpf p0) w0 m0 β0 hg) c (Qm (rc gl P N k (hpf p0) w0 m0 β0 hg) [] [] k (hpf pE)) ⟨env l,hpf p0,k⟩):
  JB gl P f first k hpf enc R p0 pE:=by
 intro m β w vs l himm hgl hargs hh hY;have hm:iH gl P f (first++[yV l]) k (hpf p0) (eS []) k (hpf pE)->True:=fun _=>trivial;have ha:=av8 ha
 have hargs':mn m β (first++[yV l]) (vs++#[.func (.yield l) #[] #[]]):=by
  refine⟨by simp[hargs.len],fun i c v h1 h2=>?_⟩;rw[bo9] at h1;rw[bx8,<-hargs.len] at h2;split at h1
  ·rename_i hlt;rw[if_pos hlt] at h2;exact hargs.at' i c v h1 h2
  ·rename_i hlt;rw[if_neg hlt] at h2;cases hj:i - first.length with
   |zero=>rw[hj] at h1 h2;simp at h1 h2;subst h1;subst h2;exact .imm (.con _)
   |succ j=>grind
 refine km hf hb ?_
 have hsz:((vs++#[Value.func (.yield l) #[] #[]])++Array.replicate (fn.ntmps - (vs++#[Value.func (.yield l) #[] #[]]).size) undef).size=N:=by
  have:=hargs'.len;simp only[bw8,bx9,hN,be9,List.length_singleton] at this ⊢;omega
 have r:cw (rc gl P N k (hpf p0) w m β hgl) m β w ⟨(vs++#[Value.func (.yield l) #[] #[]])++Array.replicate (fn.ntmps - (vs++#[Value.func (.yield l) #[] #[]]).size) undef,[]⟩ ⟨env l,hpf p0,k⟩:=by
  constructor
  ·exact himm
  ·exact bZ.le_refl _
  ·grind
  ·grind
  ·grind
  ·exact⟨Y,Y,Y,trivial⟩
  ·exact hsz
  ·exact mo.nil
  ·intro t
   show bP _ _ (get (env l) t) _
   rw[<-henv,lH];simp only[ai8,if_true,Nat.sub_zero];by_cases ht:t<(first++[yV l]).length
   ·have ht':t<(vs++#[Value.func (.yield l) #[] #[]]).size:=by rw[<-hargs'.len];exact ht
    simp only[ch8,ax9 ht,bs9,bh8];rw[bx8,if_pos ht',az9 ht'];exact hargs'.at' t _ _ (ax9 ht) (az9 ht')
   ·simp only[ch8,at8 (as8 ht),Option.getD_none];exact .imm (.any _)
  ·exact hh.own
  ·exact fun id b cap hl hb=>⟨hh.priv id b cap hl hb,fun _ hF=>(hF id hl).1 cap hb⟩
  ·exact hh.inj
  ·exact fun id x hl hx=>let q:=hh.hid id x hl hx;⟨q.1,q.2.1,fun _ hF=>(hF id hl).2 hx,q.2.2.1,q.2.2.2⟩
  ·exact hh.nx
  ·grind
 refine wpIn_mono (h w m β hgl l hY m _ w _ r) ?_
 rintro e a' w1 ⟨_,S1,m1,β1,⟨he,env',hg',hres⟩,r1⟩
 obtain⟨m2,β',r2⟩:=hg' _ _ _ _ r1;refine⟨he,cw.leave _ m2 w1 a' Y r2 (fun m' w' r'=>?_)⟩;obtain⟨v,h1,h2⟩:=hres.runs (fn:=fn) (by rw[hl]) r';exact⟨v,h1,v,m',β',Y,r'.ext,r'.imm,fun b hb hF=>⟨r'.mold b hb hF,r'.frame b hb hF⟩,r'.size,r'.same,r'.own,r'.priv,r'.inj,fun id x hl hx=>let q:=r'.hid id x hl hx;⟨q.lt,q.m,q.old,q.ne,q.un⟩,r'.nx,r'.pin⟩
theorem cw.since{gl:Gl}{P:Program}{N k:Nat}{hp0 hp:aJ}{w0:World}{m0:bZ}{β0:bw}{hg:gT gl m0}(r:cw (rc gl P N k hp0 w0 m0 β0 hg) m β w a S)(hhp:JC (Ren k (fun i=>i)) k (fun i=>i) S.hp hp):
  r8 m0 β0 w0 k hp0 m (β.sub k (fun i=>i)) w k hp:=by
 have H:=r.hand hhp (fun i j _ _ e=>e)
 have hlive:∀id,ao hp id≠.dead->id<k/\ao S.hp id≠.dead:=by
  intro id h;obtain⟨h1,h2⟩:=hhp id;refine⟨h1.resolve_left h,fun hd=>?_⟩;rw[hd] at h2;cases ho:ao hp id with
  |dead=>exact h ho
  |arr=>simp_all[ae]
  |res=>simp_all[ae]
  |map=>simp_all[ae]
  |iter=>simp_all[ae]
  |bld=>simp_all[ae]
 have e0:∀id,id<k->(β.sub k (fun i=>i)) id=β id:=fun id h=>by show(if _ then _ else _)=_;grind
 refine⟨r.ext,r.imm,fun b hb hF=>⟨r.mold b hb hF,r.frame b hb hF⟩,r.size,r.same,H.own,fun id b cap hl hb=>⟨H.priv id b cap hl hb,?_⟩,H.inj,fun id x hl hx=>?_,H.nx,fun q hq=>⟨hq,?_⟩⟩
 ·obtain⟨h1,h2⟩:=hlive id hl;rw[e0 id h1] at hb;exact(r.priv id b cap h2 hb).2
 ·obtain⟨q1,q2,q3,q4⟩:=H.hid id x hl hx;obtain⟨h1,h2⟩:=hlive id hl;exact⟨q1,q2,(r.hid id x h2 hx).old,q3,q4⟩
 ·rw[e0 q hq];exact(r.pin q hq).2
theorem lJ{gl:Gl}{P:Program}{N k:Nat}{hp0:aJ}{w0:World}{m0:bZ}{β0:bw}{hg:gT gl m0}{d l:Nat}{x y:Operand}{at':Array TypeId}{hpf:α->aJ}{enc:τ->V}{R:α->τ->Option α}{p r:α}{z:τ}(τi:Nat->Nat)(u:aJ)
  (hY:Rf P l k hp0 m0 β0 w0 hpf enc R) (hR:R p z=some r)
  (hw:aT ops S ⟨some d,.call ⟨.value x,#[y],at'⟩,ty,pos,after,g⟩ true) (hN:Nat.blt d N=true) (hx:cv (rc gl P N k hp0 w0 m0 β0 hg) S x=yV l) (hy:cv (rc gl P N k hp0 w0 m0 β0 hg) S y=enc z) (hi:aN (enc z))
  (hτi:∀i,i<k->τi i=i) (hhp:bT (Ren k (fun i=>i)) k (fun i=>i) S.hp (hpf p)) (hto:Ef k k S.nx S.nx (fun i=>i) τi (fun _=>false)=true) (hτ:si k τi=true)
  (hu:me (To k τi) τi (hpf r) k 0 u)
  (kk:aD (rc gl P N k hp0 w0 m0 β0 hg) ops rest Q ⟨(d,.con (.bool true))::S.env,u++S.hp,S.nx⟩):
  aD (rc gl P N k hp0 w0 m0 β0 hg) ops (⟨some d,.call ⟨.value x,#[y],at'⟩,ty,pos,after,g⟩::rest) Q S:=by
 intro m β w a rr;unfold wpListIn;rw[if_pos (hw.at rr)];have hv:=rr.reads x;rw[hx] at hv;have hfv:=hv.of_con;have hyv:=rr.reads y;rw[hy] at hyv;have hyi:ct m (enc z) (a.eval y):=hi.2 _ _ _ hyv;obtain⟨fn,tmps,assign,body,e1,hR2⟩:=hY p z r m _ w (a.eval y) hR (rr.since (bT.get hhp)) hyi
 have hop:(Oper.semAt none a.eval ⟨some d,.call ⟨.value x,#[y],at'⟩,ty,pos,after,g⟩).run P w=.ok (.round l fn tmps assign body) w:=by
  rw[Oper.semAt_none];simp only[execOp,resolve,hfv,Deferred.ofValue,invoke,Sem.run_bind,pure,Sem.run,Result.andThen_ok]
  simpa using e1
 refine⟨fun _ _=>trivial,?_⟩
 show Oper.uponIn _ _ _ _ _ _ _ ((Oper.semAt none a.eval _).run P w)
 rw[hop];simp only[Oper.uponIn];refine⟨fun h=>by simp[Fence.wide] at h,RoundIn.mono hR2 ?_⟩
 rintro e w' ⟨rfl,m',β',ga⟩
 obtain⟨β2,r2,_⟩:=rr.back (fun i=>i) τi S.nx u (fun _=>false) (bT.get hhp) (fun _ h=>by simp at h) hto hτ (ce8 (ae9 _)) (ce8 (ae9 _)) (fun _ h=>by simp at h) hu ga;exact kk m' β2 w' _ (r2.put hN (.imm (.con _)))
end
section
variable{K:dE}{Q:cG}{S:St}{s:List It}
variable{m:bZ}{β:bw}{w:World}{a:Act}
variable{α τ:Type}
@[reducible] def BH(gl:Gl)(P:Program)(N k l:Nat)(old:Nat->Prop)(loc:Nat->Option (Option (Nat×pI)))(w0:World)(m0:bZ)(hg:gT gl m0):dE:=⟨P,N,w0,m0,old,k,loc,gl,hg,some l⟩
theorem cw.touch(r:cw K m β w a S)(l:Nat)(o:Obj)(hl:m l=none)(hown:∀id b cap,ao S.hp id≠.dead->β id=some (some (b,cap))->b≠l)(hhid:∀id,ao S.hp id≠.dead->¬β.hid id l)(hfr:l<K.w0.heap.size->¬K.old l):
  cw K m β (w.putObj l o) a S:=by
 have hne:∀x,x≠l->(w.putObj l o).heap[x]? = w.heap[x]?:=fun x hx=>World.putObj_heap_other hx;refine⟨fun b o' h=>?_,r.ext,r.mold,fun b hb ho=>?_,by rw[World.putObj_size];exact r.size,⟨r.same.os,r.same.tape,r.same.output,r.same.drawn⟩,r.tn,r.df,r.env,fun id=>?_,r.priv,r.inj,fun id x hx hh=>?_,r.nx,r.pin⟩
 ·have:b≠l:=fun e=>by grind
  rw[hne b this];exact r.imm _ _ h
 ·have:b≠l:=fun e=>hfr (e ▸ hb) (e ▸ ho);rw[hne b this];exact r.frame b hb ho
 ·by_cases hd:ao S.hp id=.dead
  ·simp_all[bI.dead']
  ·exact bI.congr (fun b cap hb=>hne b (hown id b cap hd hb)) (fun x hx=>hne x (fun e=>hhid id hd (e ▸ hx))) (r.own id)
 ·have q:=r.hid id x hx hh;exact⟨by rw[World.putObj_size];exact q.lt,q.m,q.old,q.ne,q.un⟩
theorem cw.anew(r:cw K m β w ⟨a.tmps,[]⟩ S)(l:Nat)(o:Obj)(hl:m l=none)(h1:l<K.w0.heap.size)(h2:K.old l):
  cw ⟨K.P,K.N,w.putObj l o,m,fun b=>b<K.w0.heap.size/\K.old b,K.pins,K.loc,K.gl,K.glok.mono r.ext,K.rd⟩ m β (w.putObj l o) ⟨a.tmps,[]⟩ S:=by
 have hne:∀x,x≠l->(w.putObj l o).heap[x]? = w.heap[x]?:=fun x hx=>World.putObj_heap_other hx;refine⟨fun b o' h=>?_,bZ.le_refl _,fun _ _ _=>Y,fun _ _ _=>Y,ae9 _,⟨Y,Y,Y,trivial⟩,r.tn,mo.nil,r.env,fun id=>?_,fun id b cap hd hb=>⟨(r.priv id b cap hd hb).1,fun _ ho=>(r.priv id b cap hd hb).2 ho.1 ho.2⟩,r.inj,fun id x hx hh=>?_,r.nx,r.pin⟩
 ·have:b≠l:=fun e=>by grind
  rw[hne b this];exact r.imm _ _ h
 ·by_cases hd:ao S.hp id=.dead
  ·simp_all[bI.dead']
  ·exact bI.congr (fun b cap hb=>hne b (fun e=>(r.priv id b cap hd hb).2 (e ▸ h1) (e ▸ h2))) (fun x hx=>hne x (fun e=>(r.hid id x hd hx).old (e ▸ h1) (e ▸ h2))) (r.own id)
 ·have q:=r.hid id x hx hh;exact⟨by rw[World.putObj_size];exact q.lt,q.m,fun _ ho=>q.old ho.1 ho.2,q.ne,q.un⟩
theorem vz{m0 m:bZ}{β0 β:bw}{w0 w:World}{k:Nat}{hp0 hp:aJ}(g:r8 m0 β0 w0 k hp0 m β w k hp){l:Nat}(hl:l<w0.heap.size)(hF:dQ hp0 β0 l):dQ hp β l:=
 fun id hd=>⟨fun cap hb=>(g.priv id l cap hd hb).2 hl hF,fun hx=>(g.hid id l hd hx).2.2.1 hl hF⟩
theorem Ea{gl:Gl}{P:Program}{N k:Nat}{hp0:aJ}{m0:bZ}{β0:bw}{w0:World}{hpf:α->aJ}{enc:τ->V}{R:α->τ->Option α}{assign body:Code}(l D fn t:Nat)(tmps:Array Value)(E:cE)
  (hl:w0.heap[l]? = some (.loop { state:=.ready,pending:=none,fn,tmps,params:=#[t],assign,body,defers:=D })) (hlm:m0 l=none) (hlF:dQ hp0 β0 l) (hgl:gT gl m0) (hsz:tmps.size=N) (ht:Nat.blt t N=true)
  (hβ:∀id,k<=id->β0 id=none) (henv:∀q,bP m0 β0 (get E q) (tmps.getD q undef))
  (hround:∀(p:α) (x:τ) (r:α),R p x=some r->∃S1:St,(∀old loc w m (h:gT gl m),jF (BH gl P N k l old loc w m h) assign (fun e T=>e=.normal/\T=S1) ⟨(t,enc x)::E,hpf p,k⟩)/\
   ∀old loc w m (h:gT gl m),jF (BH gl P N k l old loc w m h) body (fun e T=>e=.normal/\∃env',bb (BH gl P N k l old loc w m h) T ⟨env',hpf r,k⟩) S1):
  Rf P l k hp0 m0 β0 w0 hpf enc R:=by
 intro p x r m β w v hR g hv;obtain⟨S1,hA,hB⟩:=hround p x r hR;have hl0:l<w0.heap.size:=cq hl;have hlw:w.heap[l]? = some (.loop { state:=.ready,pending:=none,fn,tmps,params:=#[t],assign,body,defers:=D }):=(g.old l hl0 hlF).2.trans hl;have hlm':m l=none:=(g.old l hl0 hlF).1.trans hlm;have hlt:l<w.heap.size:=cq hlw;have hFl:dQ (hpf p) β l:=vz g hl0 hlF;have hgm:gT gl m:=hgl.mono g.le;have ht':t<tmps.size:=by rw[hsz];exact av8 ht
 have hβle:β0.le β:=by
  intro id q hq;have:id<k:=Nat.lt_of_not_le fun h=>by grind
  rw[(g.pin id this).2];exact hq
 have r1:cw (BH gl P N k l (dQ (hpf p) β) β.f w m hgm) m β w ⟨tmps.setIfInBounds t v,[]⟩ ⟨(t,enc x)::E,hpf p,k⟩:=by
  constructor
  ·exact g.imm
  ·exact bZ.le_refl _
  ·grind
  ·grind
  ·grind
  ·exact⟨Y,Y,Y,trivial⟩
  ·grind
  ·exact mo.nil
  ·intro q
   show bP _ _ (get ((t,enc x)::E) q) _
   rw[dg,bh8,bl9];by_cases e:t=q
   ·subst e;simp only[if_true,if_pos ht',bs9];exact .imm hv
   ·rw[if_neg e,if_neg e,<-bh8];exact(henv q).mono g.le hβle
  ·exact g.own
  ·exact fun id b cap hd hb=>⟨(g.priv id b cap hd hb).1,fun _ hF=>(hF id hd).1 cap hb⟩
  ·exact g.inj
  ·exact fun id y hd hy=>let q:=g.hid id y hd hy;⟨q.1,q.2.1,fun _ hF=>(hF id hd).2 hy,q.2.2.2.1,q.2.2.2.2⟩
  ·exact g.nx
  ·grind
 refine⟨fn,_,assign,body,run_yield hlw Y,?_⟩;have htm:(Array.zip #[t] #[v]).foldl (fun tmps (q:Nat×Value)=>tmps.setIfInBounds q.1 q.2) tmps=tmps.setIfInBounds t v:=by simp
 refine roundIn_of_wpIn trivial ?_
 show assign.wpIn (Fence.wide.inRound l) 0 P _ { tmps:=(Array.zip #[t] #[v]).foldl (fun tmps (q:Nat×Value)=>tmps.setIfInBounds q.1 q.2) tmps,defers:=[] } w
 rw[htm];refine wpIn_mono (hA _ _ _ _ hgm m β w _ r1) ?_
 rintro e a1 w1 ⟨_,T,m1,β1,⟨rfl,rfl⟩,r2⟩
 have hl1:w1.heap[l]? = some (.loop { state:=.ready,pending:=none,fn,tmps,params:=#[t],assign,body,defers:=D }):=(r2.frame l hlt hFl).trans hlw;have hm1:m1 l=none:=(r2.mold l hlt hFl).trans hlm';refine⟨_,run_beginRound hl1 Y,?_⟩
 have ha1:a1=⟨a1.tmps,[]⟩:=by
  have:=r2.df.em rfl;cases a1;simp at this;subst this;rfl
 rw[ha1] at r2 ⊢;have r3:=r2.anew (a:=a1) l (.loop { state:=.busy,pending:=none,fn,tmps,params:=#[t],assign,body,defers:=D }) hm1 hlt hFl;have hl1t:l<w1.heap.size:=cq hl1;refine wpIn_mono (hB _ _ _ _ (hgm.mono r2.ext) m1 β1 _ _ r3) ?_
 rintro e a3 w3 ⟨_,T3,m3',β3',⟨rfl,env',hgh⟩,r4'⟩
 obtain⟨m3,β3,r4⟩:=hgh _ _ _ _ r4';have hl2t:l<(w1.putObj l (.loop { state:=.busy,pending:=none,fn,tmps,params:=#[t],assign,body,defers:=D })).heap.size:=by rw[World.putObj_size];exact hl1t
 have hl3:w3.heap[l]? = some (.loop { state:=.busy,pending:=none,fn,tmps,params:=#[t],assign,body,defers:=D }):=(r4.frame l hl2t ⟨hlt,hFl⟩).trans (World.putObj_heap_same hl1t);have hm3:m3 l=none:=(r4.mold l hl2t ⟨hlt,hFl⟩).trans hm1;refine⟨_,_,run_endRound none hl3,Y,m3,β3,?_⟩;have hne:∀(o:Obj) (W:World) x,x≠l->(W.putObj l o).heap[x]? = W.heap[x]?:=fun o W x hx=>World.putObj_heap_other hx;have hl3t:l<w3.heap.size:=cq hl3
 have hsz2:w.heap.size<=w3.heap.size:=by
  have h1:=r2.size;have h2:=r4.size;rw[World.putObj_size] at h2;exact bq8 h1 h2
 have own3:∀id b cap,ao (hpf r) id≠.dead->β3 id=some (some (b,cap))->b≠l:=fun id b cap hd hb e=>(r4.priv id b cap hd hb).2 (by grind) (by grind);have hid3:∀id,ao (hpf r) id≠.dead->¬β3.hid id l:=fun id hd hx=>(r4.hid id l hd hx).old hl2t ⟨hlt,hFl⟩;refine⟨bZ.le_trans r2.ext r4.ext,fun b o h=>?_,fun b hb hF=>?_,by grind [World.putObj_size],?_,fun id=>?_,fun id b cap hd hb=>⟨(r4.priv id b cap hd hb).1,fun hb0 hF=>(r4.priv id b cap hd hb).2 ?_ ⟨hb0,hF⟩⟩,r4.inj,fun id y hd hy=>?_,r4.nx,r4.pin⟩
 ·have:b≠l:=fun e=>by grind
  rw[hne _ _ b this];exact r4.imm _ _ h
 ·have hb2:b<(w1.putObj l (.loop { state:=.busy,pending:=none,fn,tmps,params:=#[t],assign,body,defers:=D })).heap.size:=by rw[World.putObj_size];exact cg9 hb r2.size
  refine⟨(r4.mold b hb2 ⟨hb,hF⟩).trans (r2.mold b hb hF),?_⟩;by_cases e:b=l
  ·grind [World.putObj_heap_same]
  ·rw[hne _ _ b e,r4.frame b hb2 ⟨hb,hF⟩,hne _ _ b e];exact r2.frame b hb hF
 ·exact rA.trans r2.same (rA.trans (b:=w1.putObj l _) ⟨Y,Y,Y,trivial⟩ (rA.trans r4.same ⟨Y,Y,Y,trivial⟩))
 ·by_cases hd:ao (hpf r) id=.dead
  ·grind [bI.dead']
  ·exact bI.congr (fun b cap hb=>hne _ _ b (own3 id b cap hd hb)) (fun x hx=>hne _ _ x (fun e=>hid3 id hd (e ▸ hx))) (r4.own id)
 ·rw[World.putObj_size];exact cg9 hb0 r2.size
 ·have q:=r4.hid id y hd hy;refine⟨by rw[World.putObj_size];exact q.lt,q.m,fun hb0 hF=>q.old ?_ ⟨hb0,hF⟩,q.ne,q.un⟩;rw[World.putObj_size];exact cg9 hb0 r2.size
theorem vG{t gt:Tmp}{assign body:Code}{f k:Nat}{first first':List V}{hpf:α->aJ}{enc:τ->V}{R:α->τ->Option α}{p0 pE:α}(σ τi:Nat->Nat)(u:aJ)(E:cE)
  (hrd:K.rd=none) (hg:cv K S (.tmp gt)=.fn (.func f) first []) (hfo:cP K.P f=true) (ht:Nat.blt t K.N=true)
  (hsub:iW (Ren k σ) first' first) (hhp:bT (Ren k σ) k σ S.hp (hpf p0)) (hE:bY (Ren k σ) S.env E)
  (hI:JB K.gl K.P f first' k hpf enc R p0 pE)
  (hround:∀l (p:α) (x:τ) (r:α),R p x=some r->∃S1:St,(∀old loc w m (h:gT K.gl m),jF (BH K.gl K.P K.N k l old loc w m h) assign (fun e T=>e=.normal/\T=S1) ⟨(t,enc x)::E,hpf p,k⟩)/\
   ∀old loc w m (h:gT K.gl m),jF (BH K.gl K.P K.N k l old loc w m h) body (fun e T=>e=.normal/\∃env',bb (BH K.gl K.P K.N k l old loc w m h) T ⟨env',hpf r,k⟩) S1)
  (hto:Ef k k S.nx S.nx σ τi (fun _=>false)=true) (hτ:si k τi=true) (hu:me (To k τi) τi (hpf pE) k 0 u)
  (kk:Q .normal ⟨S.env,u++S.hp,S.nx⟩):jF K (.rangeFunc (.tmp gt) #[t] assign body) Q S:=by
 intro m β w a r;have hv:=r.reads (.tmp gt);rw[hg] at hv
 obtain⟨fs,e1,e2,e3⟩:∃fs:Array Value,a.eval (.tmp gt)=.func (.func f) fs #[]/\first.length=fs.size/\∀(i:Nat) c v,first[i]? = some c->fs[i]? = some v->bP m β c v:=by
  generalize a.eval (.tmp gt)=v at hv;cases hv with
  |imm h=>cases h with|fn h1 h2 h3 h4=>exact⟨_,by grind,h1,fun i c v a b=>.imm (h3 i c v a b)⟩
  |fn h1 h2 h3 h4=>grind
 have hinj:=yd hτ;have hto':=By hto;have hσ:∀i,i<k->σ i=τi i:=fun i hi=>((hto' i hi).2.1 hi).1.symm;refine wpIn_rangeFunc ?_;intro fn _
 -- the two blocks that the loop lays
 obtain⟨w1,hw1⟩:∃w1,(w.alloc (.deferred (some []))).alloc (.loop { state:=.ready,pending:=none,fn,tmps:=a.tmps,params:=#[t],assign,body,defers:=w.heap.size })=w1:=⟨_,rfl⟩;have hs1:w1.heap.size=w.heap.size+2:=by rw[<-hw1];simp
 have hold:∀b,b<w.heap.size->w1.heap[b]? = w.heap[b]?:=fun b hb=>by
  rw[<-hw1];show((w.heap.push _).push _)[b]? = _
  grind
 have hD1:w1.heap[w.heap.size]? = some (.deferred (some [])):=by
  rw[<-hw1];show((w.heap.push _).push _)[w.heap.size]? = _
  grind
 have hl1:w1.heap[w.heap.size+1]? = some (.loop { state:=.ready,pending:=none,fn,tmps:=a.tmps,params:=#[t],assign,body,defers:=w.heap.size }):=by
  rw[<-hw1];show((w.heap.push _).push _)[w.heap.size+1]? = _
  grind
 have hsame:rA w w1:=by rw[<-hw1];exact⟨Y,Y,Y,trivial⟩
 have hnone:∀b,w.heap.size<=b->m b=none:=fun b hb=>by
  cases h:m b with
  |none=>rfl
  |some o=>have:=cq (r.imm b o h);omega
 -- the memory: the mark's block is kept
 let m1:bZ:=fun b=>if b=w.heap.size then some (.deferred (some [])) else m b
 have hm1o:∀b,b≠w.heap.size->m1 b=m b:=fun b hb=>by grind
 have hm1D:m1 w.heap.size=some (.deferred (some [])):=by show(if _ then _ else _)=_;grind
 have hg1:vR m m1 w w1:=by
  refine⟨fun b o h=>?_,fun b o h=>?_,fun b hb=>hm1o b (by omega),hold,by omega,hsame⟩
  ·grind
  ·by_cases e:b=w.heap.size
   ·grind
   ·rw[hm1o b e] at h;rw[hold b (cq (r.imm b o h))];exact r.imm b o h
 have r1:cw K m1 β w1 a S:=r.grow hg1;have hlm:m1 (w.heap.size+1)=none:=by rw[hm1o _ (by omega)];exact hnone _ (by omega)
 -- a context in which the loop's record is kept
 let K1:dE:=⟨K.P,K.N,w1,m1,fun b=>(b<K.w0.heap.size/\K.old b)\/b=w.heap.size+1,K.pins,K.loc,K.gl,K.glok.mono r1.ext,K.rd⟩
 have own_lt:∀id b cap,ao S.hp id≠.dead->β id=some (some (b,cap))->b<w.heap.size:=fun id b cap hd hb=>gY hd hb (r.own id)
 have rK:cw K1 m1 β w1 ⟨a.tmps,[]⟩ S:=by
  refine⟨r1.imm,bZ.le_refl _,fun _ _ _=>Y,fun _ _ _=>Y,ae9 _,⟨Y,Y,Y,trivial⟩,r1.tn,mo.nil,r1.env,r1.own,fun id b cap hd hb=>⟨(r1.priv id b cap hd hb).1,fun _ ho=>?_⟩,r1.inj,fun id x hd hx=>?_,r1.nx,r1.pin⟩
  ·rcases ho with ⟨h1,h2⟩|h
   ·exact(r1.priv id b cap hd hb).2 h1 h2
   grind
  ·have q:=r1.hid id x hd hx;refine⟨q.lt,q.m,fun _ ho=>?_,q.ne,q.un⟩;rcases ho with ⟨h1,h2⟩|h
   ·exact q.old h1 h2
   ·have:=(r.hid id x hd hx).lt;omega
 have H:=rK.hand (bT.get hhp) (fun i j hi hj e=>hinj i j hi hj (by grind));have hyR:Ren k σ m1 β m1 (β.sub k σ):=⟨rfl,fun id h=>by show(if _ then _ else _)=_;grind⟩
 have hfs:mn m1 (β.sub k σ) first' fs:=by
  refine⟨by rw[hsub.len];exact e2,fun i c v hi hv=>?_⟩;have hlt:=(ba8.1 hi).1;have hlt':i<first.length:=by rw[<-hsub.len];exact hlt
  exact hsub.get i c _ hi (ax9 hlt') _ _ _ _ _ hyR ((e3 i _ v (ax9 hlt') hv).mono hg1.le (bw.le_refl _))
 have hFl:dQ (hpf p0) (β.sub k σ) (w.heap.size+1):=by
  intro id hd;obtain⟨h1,h2⟩:=(bT.get hhp) id;have hk:id<k:=h1.resolve_left hd
  have hd2:ao S.hp (σ id)≠.dead:=fun hdd=>by
   grind [ae]
  refine⟨fun cap hb=>?_,fun hx=>?_⟩
  ·have e0:(β.sub k σ) id=β (σ id):=by show(if _ then _ else _)=_;grind
   grind
  ·have:=(r.hid (σ id) _ hd2 hx).lt;omega
 have hY:Rf K.P (w.heap.size+1) k (hpf p0) m1 (β.sub k σ) w1 hpf enc R:=
  Ea (gl:=K.gl) (N:=K.N) (w.heap.size+1) w.heap.size fn t a.tmps E hl1 hlm hFl (K.glok.mono r1.ext) r1.tn ht
   (fun id hid=>by show(if _ then _ else _)=_;grind) (fun q=>(bY.get hE q) _ _ _ _ _ hyR (r1.env q)) (hround (w.heap.size+1))
 refine⟨w.heap.size+1,[{ target:=.collected w.heap.size,args:=#[] }],w1,{ target:=.fn (.func f) #[],args:=fs++#[.func (.yield (w.heap.size+1)) #[] #[]] },w1,f,fs++#[.func (.yield (w.heap.size+1)) #[] #[]],w1,?_,?_,fun _ _=>trivial,?_,fun h=>by simp[Fence.wide] at h,?_⟩
 ·grind [run_enterLoop_outer]
 ·simp only[resolve,e1,Deferred.ofValue];simp[pure,Act.eval]
 ·grind [invoke,fS]
 ·refine callsIn_wide.2 ((hI m1 (β.sub k σ) w1 fs (w.heap.size+1) rK.imm (K.glok.mono r1.ext) hfs H hY).mono ?_)
  rintro e w2 ⟨v,m',β',rfl,ga⟩
  obtain⟨β2,r2,_⟩:=rK.back σ τi S.nx u (fun _=>false) (bT.get hhp) (fun _ h=>by simp at h) hto hτ (ce8 (ae9 _)) (ce8 (ae9 _)) (fun _ h=>by simp at h) hu ga;have hlt1:w.heap.size+1<w1.heap.size:=by omega
  have hl2:w2.heap[w.heap.size+1]? = some (.loop { state:=.ready,pending:=none,fn,tmps:=a.tmps,params:=#[t],assign,body,defers:=w.heap.size }):=(r2.frame _ hlt1 (.inr rfl)).trans hl1;have hm2:m' (w.heap.size+1)=none:=(r2.mold _ hlt1 (.inr rfl)).trans hlm;refine⟨none,_,run_endLoop hl2 (by simp),?_⟩;refine⟨Y,⟨S.env,u++S.hp,S.nx⟩,m',β2,kk,?_⟩;have hw0:K.w0.heap.size<=w1.heap.size:=bq8 r.size (by omega)
  have r3:cw K m' β2 w2 { a with defers:={ target:=.collected w.heap.size,args:=#[] }::a.defers } ⟨S.env,u++S.hp,S.nx⟩:=by
   refine⟨r2.imm,bZ.le_trans r1.ext r2.ext,fun b hb ho=>(r2.mold b (cg9 hb hw0) (.inl ⟨hb,ho⟩)).trans (r1.mold b hb ho),fun b hb ho=>(r2.frame b (cg9 hb hw0) (.inl ⟨hb,ho⟩)).trans (r1.frame b hb ho),bq8 hw0 r2.size,r1.same.trans r2.same,r2.tn,?_,r2.env,r2.own,fun id b cap hd hb=>⟨(r2.priv id b cap hd hb).1,fun hb0 ho=>(r2.priv id b cap hd hb).2 (cg9 hb0 hw0) (.inl ⟨hb0,ho⟩)⟩,r2.inj,fun id x hd hx=>?_,r2.nx,r2.pin⟩
   ·have hmk:=r.df;refine⟨fun d hd=>?_,aa9.2 ⟨fun hd=>?_,hmk.nd⟩,fun h=>by grind⟩
    ·rcases aq9.1 hd with e|hd
     ·refine⟨w.heap.size,e,r.size,?_,r2.ext _ _ hm1D⟩;cases h:K.m0 w.heap.size with
      |none=>rfl
      |some o=>have:=r.ext _ _ h;grind
     ·obtain⟨D,g1,g2,g3,g4⟩:=hmk.at' d hd;exact⟨D,g1,g2,g3,r2.ext _ _ (hg1.le _ _ g4)⟩
    ·obtain⟨D,g1,g2,g3,g4⟩:=hmk.at' _ hd<;>grind
   ·have q:=r2.hid id x hd hx;exact⟨q.lt,q.m,fun hb0 ho=>q.old (cg9 hb0 hw0) (.inl ⟨hb0,ho⟩),q.ne,q.un⟩
  refine r3.touch (w.heap.size+1) _ hm2 (fun id b cap hd hb e=>(r2.priv id b cap hd hb).2 (by grind) (.inr e)) (fun id hd hx=>(r2.hid id _ hd hx).old hlt1 (.inr Y)) (fun h=>by have:=r.size;omega)
end
section
variable{K:dE}{Q:cG}{S:St}
variable{m:bZ}{β:bw}{w:World}{a:Act}
variable{ops:Array Oper}{rest:List Oper}{ty:TypeId}{pos:String}{after:Array Edge}{g:Option (Nat×Bool)}
theorem cw.nilO(r:cw K m β w a S)(e:TypeId)(k:Nat):∃β':bw,cw K m β' w a ⟨S.env,(S.nx,.arr e k [])::S.hp,S.nx+1⟩/\β' S.nx=some none:=by
 have henv:∀t,ap (JK S.nx) (get S.env t) (get S.env t):=fun _=>ap.keepNil;have hhp:∀i,ae (JK S.nx) (ao S.hp i) (ao S.hp i):=fun _=>ae.keep (fun _=>ap.keepNil) _
 let β':bw:=⟨fun i=>if i=S.nx then some none else β i,fun i=>if i=S.nx then fun _=>False else β.hid i⟩
 have en:β' S.nx=some none:=by show(if _ then _ else _)=_;grind
 have eo:∀i,i≠S.nx->β' i=β i:=fun i h=>by grind
 have hn:β'.hid S.nx=fun _=>False:=by show(if _ then _ else _)=_;grind
 have hho:∀i,i≠S.nx->β'.hid i=β.hid i:=fun i h=>by grind
 have hle:β.le β':=by
  intro i l h;rw[eo i]
  ·exact h
  ·intro e;rw[e,r.nx _ (ae9 _)] at h;simp at h
 have hy:JK S.nx m β m β':=⟨rfl,hle,en⟩;have hdead:∀i,ao S.hp i≠.dead->ao S.hp i≠.dead:=fun _ h=>h
 have hlive:∀i b c,ao ((S.nx,.arr e k [])::S.hp) i≠.dead->β' i=some (some (b,c))->ao S.hp i≠.dead/\β i=some (some (b,c)):=by
  intro i b c h hb;rw[ar] at h;by_cases hi:S.nx=i
  ·grind
  ·grind
 refine⟨β',⟨r.imm,r.ext,r.mold,r.frame,r.size,r.same,r.tn,r.df,fun t=>henv t _ _ _ _ _ hy (r.env t),fun i=>?_,fun i b c h hb=>?_,fun i i' b c c' h h' hb hb'=>?_,fun i x h hx=>?_,fun i hi=>?_,fun q hq=>?_⟩,en⟩
 ·show bI m β' w (β'.hid i) (β' i) (ao ((S.nx,.arr e k [])::S.hp) i)
  rw[ar];by_cases hi:S.nx=i
  ·simp_all[bI]
  ·rw[if_neg hi];have h2:=hhp i;rw[eo i (Ne.symm hi),hho i (Ne.symm hi)];exact h2.ok hy (r.own i)
 ·obtain⟨h1,h2⟩:=hlive i b c h hb;exact r.priv i b c h1 h2
 ·obtain⟨h1,h2⟩:=hlive i b c h hb;obtain⟨h1',h2'⟩:=hlive i' b c' h' hb';exact r.inj i i' b c c' h1 h1' h2 h2'
 ·have h0:ao ((S.nx,.arr e k [])::S.hp) i≠.dead:=h;rw[ar] at h0;by_cases hi:S.nx=i
  ·grind
  ·rw[if_neg hi] at h0;rw[hho i (Ne.symm hi)] at hx;have q:=r.hid i x (hdead i h0) hx;refine⟨q.lt,q.m,q.old,fun i' b c h' hb'=>?_,fun i' h' hx'=>?_⟩
   ·obtain⟨h1,h2⟩:=hlive i' b c h' hb';exact q.ne i' b c h1 h2
   ·have h0':ao ((S.nx,.arr e k [])::S.hp) i'≠.dead:=h';rw[ar] at h0';by_cases hi':S.nx=i'
    ·grind
    ·rw[if_neg hi'] at h0';rw[hho i' (Ne.symm hi')] at hx';exact q.un i' (hdead i' h0') hx'
 ·have hi':S.nx+1<=i:=hi;rw[eo i (by omega)];exact r.nx i (by omega)
 ·obtain⟨h1,h2⟩:=r.pin q hq<;>grind
theorem vK{S0:St}{d T T' e k bytes n n' id:Nat}{s x:Operand}{sv:V}{rows:List (List V)}(idn nx':Nat)(hfree:∀m β w a,cw K m β w a S->β idn=none/\∀q,q<K.pins->q≠idn)(hidn:idn<nx')(hnn:S.nx<=nx')(rows2 rows':List (List V))(hT:eQ K.P T e k bytes=true)(hT':zx K.P T'=true)
  (hpos:Nat.blt 0 bytes=true) (hkp:Nat.blt 0 k=true)
  (hw:aT ops S0 ⟨some d,.call ⟨.builtin .append,#[s,x],#[T,T']⟩,ty,pos,after,g⟩ true)
  (hs:∀m β w a,cw K m β w a S0->∃β1,cw K m β1 w a S/\bP m β1 (.own id n) (a.eval s)) (ho:ao S.hp id=.arr e k rows) (hn:rows.length=n) (hx:cv K S x=sv) (hsrc:zo S k sv rows2)
  (hr:rows++rows2=rows') (hn':rows'.length=n') (hb:n'*bytes<=140737488355328\/(rows2.length=1/\n'*bytes<=211106232532992/\bytes<=1000000)) (hN:Nat.blt d K.N=true)
  (kk:aD K ops rest Q ⟨(d,.own idn n')::S.env,(idn,.arr e k rows')::(id,.dead)::S.hp,nx'⟩):
  aD K ops (⟨some d,.call ⟨.builtin .append,#[s,x],#[T,T']⟩,ty,pos,after,g⟩::rest) Q S0:=by
 refine cJ hw (fun m β00 w a r00=>?_) kk;obtain⟨β,r,hsv⟩:=hs m β00 w a r00;have hpos:=av8 hpos;have hkp:0<k:=av8 hkp;obtain⟨news,n1,n2,n3,n4,n5⟩:=hsrc.read hkp r (by rw[<-hx];exact r.reads x);have hlen:n'=n+rows2.length:=by grind
 have hop:∀(v:Value) (w':World),(Builtin.append_ #[T,T'] ty #[a.eval s,a.eval x]).run K.P w=.ok v w'->
   (execOp a.eval ⟨some d,.call ⟨.builtin .append,#[s,x],#[T,T']⟩,ty,pos,after,g⟩).run K.P w=.ok (.value v) w':=by
  intro v w' h;refine ep Y ?_;simp only[builtin,bg8,bh9,ao9,Sem.run_bind,h,Result.andThen_ok];rfl
 -- rows of the result
 have hrows':∀row,row∈rows'->(∀row,row∈rows->row.length=k)->row.length=k:=by
  intro row h h5;rw[<-hr] at h;rcases bu9.1 h with h|h
  ·grind
  ·grind
 have hcells:∀(β':bw) (w':World) (bl:Nat->Nat->Prop) (off:Nat) (old:Nat->Option Value) (arr':Array Value),β.le β'->(∀p x,bl p x->w'.heap[x]? = w.heap[x]?)->(∀row,row∈rows->row.length=k)->
   (∀(i j:Nat) (row:List V) (c:V),rows[i]? = some row->row[j]? = some c->∃v,old (i*k+j)=some v/\fB m β w (bl (i*k+j)) c v/\v.oneCell'=true)->
   (∀p,p<n*k->arr'[off+p]? = old p)->(∀p,p<rows2.length*k->arr'[off+(n*k+p)]? = news[p]?)->
   ∀(i j:Nat) (row:List V) (c:V),rows'[i]? = some row->row[j]? = some c->∃v,arr'[off+(i*k+j)]? = some v/\fB m β' w' (bl (i*k+j)) c v/\v.oneCell'=true:=by
  intro β' w' bl off old arr' hle hbl h5 h6 ha hb' i j row c hi hj;have hrk:=hrows' row (aw9 hi) h5;have hjk:j<k:=by rw[<-hrk];exact(ba8.1 hj).1
  rw[<-hr,bo9] at hi
  have hmul:∀p q:Nat,p<q->p*k+j<q*k:=by
   intro p q hpq
   calc p*k+j<p*k+k:=by omega
    _=(p+1)*k:=by grind
    _<=q*k:=bc9 _ hpq
  split at hi
  ·rename_i hlt;obtain⟨v,a1,a2,a3⟩:=h6 i j row c hi hj;exact⟨v,by grind,a2.mono (bZ.le_refl _) hle (fun _ h=>h) (fun x hx=>hbl _ x hx),a3⟩
  ·rename_i hlt;obtain⟨v,a1,a2,a3⟩:=n5 (i - rows.length) j row c hi hj;have hi2:=(ba8.1 hi).1
   have e1:i*k+j=n*k+((i - rows.length)*k+j):=by
    rw[<-af9,<-al8];congr 2;omega
   refine⟨v,?_,.inl (a2.mono (bZ.le_refl _) hle),a3⟩
   simp_all
 -- a new block
 have hlid:ao S.hp id≠.dead:=by rw[ho];simp
 have grows:∀(bl:Nat->Nat->Prop) (hBl:JO (β.hid id) bl) (olds:List Value) (base:Option Addr) (cap:Nat),a.eval s=.slice base n cap->(∀w':World,w'.heap=w.heap->(Builtin.firstCells k n (.slice base n cap)).run K.P w'=.ok olds.toArray w')->olds.length=n*k->
   n<=cap->¬n+rows2.length<=cap->(∀row,row∈rows->row.length=k)->
   (∀(i j:Nat) (row:List V) (c:V),rows[i]? = some row->row[j]? = some c->∃v,olds[i*k+j]? = some v/\fB m β w (bl (i*k+j)) c v/\v.oneCell'=true)->
   ∃v w' m' β',((execOp a.eval ⟨some d,.call ⟨.builtin .append,#[s,x],#[T,T']⟩,ty,pos,after,g⟩).run K.P w=.ok (.value v) w'\/v=undef/\(execOp a.eval ⟨some d,.call ⟨.builtin .append,#[s,x],#[T,T']⟩,ty,pos,after,g⟩).run K.P w=.ok .skip w')/\
    cw K m' β' w' (a.put (some d) v) ⟨(d,.own idn n')::S.env,(idn,.arr e k rows')::(id,.dead)::S.hp,nx'⟩:=by
  intro bl hBl olds base cap hsx hold hol hcap hfit h5 h6;obtain⟨q1,_,q3⟩:=CY (mm:=rows2.length) hpos hcap hfit (by grind);obtain⟨cap',arr',b1,b2,b3,b4,b5⟩:=kD (ty:=ty) hT hT' rfl (hold { w with drawn:=w.drawn+1 } rfl) (n1 w rfl).1 (n1 { w with drawn:=w.drawn+1 } rfl).2 hol n2 hfit q1 q3;have r1:=(r.drawn (w.drawn+1) (ak8 _)).kill id
  have hdd:∀i,ao ((id,.dead)::S.hp) i≠.dead->ao S.hp i≠.dead/\i≠id:=by
   intro i hi;rw[ar] at hi;split at hi
   ·grind
   ·grind
  obtain⟨β',hle,hnx,r2⟩:=r1.allocG idn nx' (hfree m β w a r).1 (hfree m β w a r).2 hidn hnn (.cells arr' e (0,0)) (.arr e k rows') ⟨cap',0⟩ _ rfl (β.hid id)
   (fun x hx=>let q:=r.hid id x hlid hx;⟨q.lt,q.m,q.old,fun i b c hi hb=>q.ne i b c (hdd i hi).1 hb,fun i hi hx'=>(hdd i hi).2 (q.un i (hdd i hi).1 hx')⟩) (fun β' hle=>by
   refine kH (vs:=arr') bl hBl (by simp) (by grind) (by grind) b3 (fun row h=>hrows' row h h5) ?_;refine hcells β' _ bl 0 (fun p=>olds[p]?) arr' hle (fun p x hx=>?_) h5 h6 ?_ ?_
   ·have:=(r.hid id x hlid (hBl.1 p x hx)).lt
    grind
   ·grind
   grind)
  refine⟨.slice (some ⟨w.heap.size,0,none⟩) n' cap',{ w with drawn:=w.drawn+1,heap:=w.heap.push (.cells arr' e (0,0)) },m,β',.inl ?_,?_⟩
  ·grind
  ·exact cw.put r2 hN (.own hnx)
 generalize hsx:a.eval s=sx at hsv;cases hsv with
 |imm h=>cases h
 | @ownNil _ ad hbn=>
  have h0:=r.own id;rw[hbn,ho] at h0;have h0:rows=[]:=h0;subst h0;by_cases hfit:0+rows2.length<=0
  ·have h2:rows2=[]:=aw8.1 (by omega);subst h2;have h3:rows'=[]:=by rw[<-hr];rfl
   subst h3;have hn0:n'=0:=by simpa using hn'.symm
   subst hn0;obtain⟨β',hle,hnx,r2⟩:=r.moveG id idn nx' (hfree m β w a r).1 (hfree m β w a r).2 hidn hnn ho (by simp) (by simp);refine⟨.slice ad 0 0,w,m,β',.inl ?_,cw.put r2 hN (.ownNil (by grind))⟩;refine hop _ _ ?_;rw[hsx];obtain⟨i,z,hu,hi,hs',hby,hz,hzk⟩:=fC hT;have hk:K.P.cellsOf e=k:=by simp[Program.cellsOf,hi,hs']
   obtain⟨q1,q2⟩:=n1 w rfl;have hnews:news=[]:=aw8.1 (by grind);subst hnews;simp only[bm9] at q2;rcases pK hT' with ⟨e',hu'⟩|hu'
   all_goals
    simp only[Builtin.append_,bd9,bj9,bn9,Sem.run_bind,run_underlying hu,Result.andThen_ok,run_sizeOf w hi,hk,run_underlying hu',pure,Sem.run,
     cf9,if_false,q1,bm9,bc8,ae9,if_true,br9]
    cases ad<;>simp[q2,storeCells,pure,Sem.run]
  ·exact grows _ kT [] ad 0 hsx (fun w' _=>by cases ad<;>simp[Builtin.firstCells,loadCells,loadCellsFrom,pure]) (by simp) (ai8 _) hfit (by simp) (by simp)
 | @own _ _ b cap hbb=>
  obtain⟨arr,bl,h1,h2,h3,h4,h5,hBl,h6⟩:=r.obj hbb ho;have hnk:cap.off+n*k<=arr.size:=by rw[h2,<-hn];have:=bc9 k h3;omega
  by_cases hfit:n+rows2.length<=cap.n
  ·have hrun:=mg (ty:=ty) hT hT' h1 h2 (n1 w rfl).1 (n1 w rfl).2 n2 n3 hfit
   have hle2:cap.off+n*k+news.length<=arr.size:=by
    have:n*k+rows2.length*k<=cap.n*k:=by rw[<-al8];exact bc9 _ hfit
    rw[n2,h2];omega
   have hgt:∀p,(arr.toList.take (cap.off+n*k)++news++arr.toList.drop (cap.off+n*k+news.length)).toArray[p]? = if cap.off+n*k<=p/\p<cap.off+n*k+news.length then news[p - (cap.off+n*k)]? else arr[p]?:=by
    intro p;rw[bd9,jg _ _ _ (by grind)]
    grind
   have r1:=r.update (id:=id) (ob:=.arr e k rows') (by grind) hbb (w.setRow b (arr.toList.take (cap.off+n*k)++news++arr.toList.drop (cap.off+n*k+news.length)).toArray) (fun b' hb'=>mN hb') (by simp[World.setRow]) ⟨rfl,rfl,rfl,trivial⟩ (fun hkeep=>by
    refine kH bl hBl (gJ h1) ?_ (by grind) h4 (fun row h=>hrows' row h h5) ?_
    ·grind
    ·refine hcells β _ bl cap.off (fun p=>arr[cap.off+p]?) _ (bw.le_refl _) (fun p x hx=>hkeep x (hBl.1 p x hx)) h5 h6 ?_ ?_
     ·grind
     grind)
   obtain⟨β',hle,hnx,r2⟩:=r1.moveG id idn nx' (hfree m β w a r).1 (hfree m β w a r).2 hidn hnn (ob:=.arr e k rows') (by rw[ar];simp) (by simp) (by simp)
   have r3:cw K m β' (w.setRow b (arr.toList.take (cap.off+n*k)++news++arr.toList.drop (cap.off+n*k+news.length)).toArray) a ⟨S.env,(idn,.arr e k rows')::(id,.dead)::S.hp,nx'⟩:=by
    have hsame:∀i,ao ((idn,Ob.arr e k rows')::(id,.dead)::(id,.arr e k rows')::S.hp) i=ao ((idn,Ob.arr e k rows')::(id,.dead)::S.hp) i:=by
     intro i;simp only[ar];by_cases q1:idn=i
     ·grind
     ·grind
    exact⟨r2.imm,r2.ext,r2.mold,r2.frame,r2.size,r2.same,r2.tn,r2.df,r2.env,fun i=>by have:=r2.own i;grind,
     fun i b c h=>r2.priv i b c (by grind),fun i i' b c c' h h'=>r2.inj i i' b c c' (by grind) (by grind),
     fun i x h hx=>let q:=r2.hid i x (by grind) hx;⟨q.lt,q.m,q.old,fun i' b c h'=>q.ne i' b c (by grind),fun i' h'=>q.un i' (by grind)⟩,r2.nx,r2.pin⟩
   refine⟨.slice (some ⟨b,cap.off,none⟩) n' cap.n,w.setRow b (arr.toList.take (cap.off+n*k)++news++arr.toList.drop (cap.off+n*k+news.length)).toArray,m,β',.inl ?_,cw.put r3 hN (.own (by grind))⟩
   grind
  ·refine grows bl hBl ((arr.toList.drop cap.off).take (n*k)) (some ⟨b,cap.off,none⟩) cap.n hsx (fun w' hw'=>?_) (by simp;omega) (by omega) hfit h5 ?_
   ·have:=jh (P:=K.P) (w:=w') (ad:=⟨b,cap.off,none⟩) (n:=n) (c:=cap.n) (k:=k) (fun j=>arr.getD (cap.off+j) undef) (fun j hj=>by
     rw[eF,cL (arr:=arr) (T:=e) (fr:=(0,0)) (by grind)];have:cap.off+j<arr.size:=by omega
     simp_all)
    rw[this]
    congr 2
    apply ar9;intro j;rw[ax8,bd8];by_cases hj:j<n*k
    ·rw[ay9 hj,if_pos hj,at9];have:cap.off+j<arr.size:=by omega
     simp_all
    grind
   ·intro i j row c hi hj;obtain⟨v,a1,a2,a3⟩:=h6 i j row c hi hj;refine⟨v,?_,a2,a3⟩;rw[bd8,if_pos]
    ·grind
    ·have hrk:=h5 row (aw9 hi);have hjk:j<k:=by rw[<-hrk];exact(ba8.1 hj).1
     calc i*k+j<i*k+k:=by omega
      _=(i+1)*k:=by grind
      _<=n*k:=bc9 _ (by grind)
theorem qr{d T T' e k bytes n':Nat}{x:Operand}{sv:V}(rows':List (List V))(hT:eQ K.P T e k bytes=true)(hT':cZ K.P T'=true)
  (hpos:Nat.blt 0 bytes=true) (hkp:Nat.blt 0 k=true)
  (hw:aT ops S ⟨some d,.call ⟨.builtin .append,#[.const (.slice none 0 0),x],#[T,T']⟩,ty,pos,after,g⟩ true)
  (hx:cv K S x=sv) (hsrc:zo ⟨S.env,(S.nx,.arr e k [])::S.hp,S.nx+1⟩ k sv rows') (hn':rows'.length=n') (hb:n'*bytes<=140737488355328) (hN:Nat.blt d K.N=true)
  (kk:aD K ops rest Q ⟨(d,.own (S.nx+1) n')::S.env,(S.nx+1,.arr e k rows')::(S.nx,.dead)::(S.nx,.arr e k [])::S.hp,S.nx+2⟩):
  aD K ops (⟨some d,.call ⟨.builtin .append,#[.const (.slice none 0 0),x],#[T,T']⟩,ty,pos,after,g⟩::rest) Q S:=
 vK (S:=⟨S.env,(S.nx,.arr e k [])::S.hp,S.nx+1⟩) (id:=S.nx) (n:=0) (rows:=[]) (S.nx+1) (S.nx+2) (fun _ _ _ _ r=>⟨r.nx _ (ae9 _),fun q hq=>aj8 (r.pin q hq).1⟩) (ak9 _) (ak8 _) rows' rows' hT (o8 hT') hpos hkp hw
  (fun m β w a r=>by
   obtain⟨β',h1,h2⟩:=r.nilO e k;exact⟨β',h1,.ownNil h2⟩) oi rfl (by cases x<;>exact hx) hsrc (by simp) hn' (.inl hb) hN kk
end
theorem F6{τ:Type}{D E:τ->List V}(e:Nat)(hu:Ry D E):∀o:Option τ,vN (sk e D o) (xH E o)
 |none=>.imm rfl
 |some x=>.pt (hu x).1 (fun j c c' h1 h2=>((hu x).2 j c c' h1 h2).1)
theorem wB{τ:Type}{D:τ->List V}(e:Nat):∀o:Option τ,ef (sk e D o)
 |none=>(aN.con _).2
 |some x=>ef.dpt _ _
theorem ae.holePT{κ τ:Type}[DecidableEq κ]{E:κ×Option τ->Value×V}[i:P5 E]{k0:κ}{k k' j i':Nat}{τi:Nat->Nat}{xs:List (κ×Option τ)}(hn:Nat.blt j k'=true)(hj:τi j=i'):
  ae (To k' τi) (.map (Go.Pv.holeP E (.ptr i' k 0 0) k0 xs)) (.map (Go.Pv.holeP E (.ptr j k 0 0) k0 xs)):=
 ae.holeP E k0 (jJ.sub (ap.ptrT hn hj) rfl) (fun p=>jJ.same md.h (ap.kpT (i.h p))) xs
section
variable{K:dE}{Q:cG}{S S':St}
variable{ops:Array Oper}{rest:List Oper}{ty:TypeId}{pos:String}{after:Array Edge}{g:Option (Nat×Bool)}
end
section
variable{K:dE}{Q:cG}{S S':St}{s:List It}
variable{ops:Array Oper}{rest:List Oper}{ty:TypeId}{pos:String}{after:Array Edge}{g:Option (Nat×Bool)}
theorem uM{d f:Nat}{first:Array Operand}(fs:List V)(hw:aT ops S ⟨some d,.makeFunc (.func f) first #[],ty,pos,after,g⟩ true)
  (hc:first.toList.map (cv K S)=fs) (hN:Nat.blt d K.N=true) (kk:aD K ops rest Q (S.put d (.fn (.func f) fs []))):
  aD K ops (⟨some d,.makeFunc (.func f) first #[],ty,pos,after,g⟩::rest) Q S:=
 bi _ hw hN (fun m β w a r=>by
  refine⟨.func (.func f) (first.map a.eval) #[],by simp_all[execOp,Instr.makeFunc],.fn (by grind) Y (fun i c v h1 h2=>?_) (by simp)⟩;rw[<-hc,ax8] at h1;rw[bw9] at h2;cases hx:first[i]? with
  |none=>grind
  |some x=>
   simp[hx] at h1 h2;subst h1;subst h2;exact r.reads x) kk
theorem rfC{c:Code}(h:jF K c (post K Q s) S):WG K Q (.c c::s) S:=h
theorem wP(h:post K Q s .normal S):WG K Q s S:=h
end
def c8{τ:Type}(enc:τ->List V)[i:EI enc](y:τ):aR:=⟨enc y,i.h y,i.o y⟩
theorem Fc{τ:Type}{enc:τ->List V}:∀o:Option τ,(xH enc o).deep=false
 |none=>rfl
 |some _=>rfl
end Go.Pv
