/- Part of the proof. -/
import Derived.Test.YtelmfadihfcgnaaGreatDoorHDF
import Derived.Test.YtelmfadihfcgnaaGreatDoorProg
set_option linter.unusedSimpArgs false
set_option linter.unusedVariables false
namespace Go.Proofs.YtelmfadihfcgnaaGreatDoor
open Go Go.Pv
set_option maxRecDepth 100000
theorem mixed:Tryz.prog.follows .mixedOrders=true:=by kernel_rfl
structure aV where
 Kind:Int
 Name:B8
 Texts:(List B8)
 Op:Int
 N:Int
 Kids:(List aU)
structure bC where
 Name:B8
 Value:B8
 deriving DecidableEq
structure aT where
 Name:B8
 N:Int
 deriving DecidableEq
structure aZ where
 Kind:B8
 Subject:B8
 Texts:(List bC)
 Numbers:(List aT)
 deriving DecidableEq
structure bL where
 name:Bool
 texts:Bool
 number:Bool
 kids:Int
 deriving DecidableEq
structure cT where
 name:B8
 texts:(List B8)
 deriving DecidableEq
structure cq where
 name:B8
 texts:(List B8)
 deriving DecidableEq
structure cN where
 name:B8
 deriving DecidableEq
structure cp where
 name:B8
 op:Int
 n:Int
 deriving DecidableEq
structure cM where
 kid:KV
structure cP where
 kids:(List KV)
structure cO where
 kids:(List KV)
structure cG where
 deriving DecidableEq
structure ae where
 is:(List B8)
 begins:(List B8)
 numbers:(List Int)
 asText:Bool
 asNo:Bool
 has:Bool
 weight:Int
 deriving DecidableEq
structure aa where
 hasText:Bool
 hasNumber:Bool
 text:B8
 number:Int
 deriving DecidableEq
structure aq where
 by_:(List (B8×aa))
 known:(Option (List (B8×Bool)))
 deriving DecidableEq
structure ab where
 isText:Bool
 isNumber:Bool
 text:B8
 number:Int
 deriving DecidableEq
structure aQ where
 t:aV
 names:(List B8)
 can:(List (List ab))
 settled:(List Bool)
 is:(List ab)
def au(x:Int):List V:=[(iV x)]
theorem bt(x:Int):cv (au x):=(.cons (aw.con _) .nil)
theorem gY(x:Int):(au x).all dF=true:=rfl
instance:EI au:=⟨bt,gY⟩
def dJ(x:Bool):List V:=[(bV x)]
theorem dI(x:Bool):cv (dJ x):=(.cons (aw.con _) .nil)
theorem Fh(x:Bool):(dJ x).all dF=true:=rfl
instance:EI dJ:=⟨dI,Fh⟩
def ap(x:B8):List V:=[(sV x)]
theorem aJ(x:B8):cv (ap x):=(.cons (aw.con _) .nil)
theorem gC(x:B8):(ap x).all dF=true:=rfl
instance:EI ap:=⟨aJ,gC⟩
def ar(x:aV):List V:=[(iV x.Kind),(sV x.Name),(V.lst 1 (x.Texts.map ap)),(iV x.Op),(iV x.N),(V.lst 6 (x.Kids.map aU.row))]
theorem cH(x:aV):cv (ar x):=(.cons (aw.con _) (.cons (aw.con _) (.cons (aw.lst _ _) (.cons (aw.con _) (.cons (aw.con _) (.cons (aw.lst _ _) .nil))))))
theorem gX(x:aV):(ar x).all dF=true:=rfl
instance:EI ar:=⟨cH,gX⟩
@[simp] theorem Ih(x:aV):(ar x).length=6:=rfl
def bu(x:bC):List V:=[(sV x.Name),(sV x.Value)]
theorem dy(x:bC):cv (bu x):=(.cons (aw.con _) (.cons (aw.con _) .nil))
theorem vZ(x:bC):(bu x).all dF=true:=rfl
instance:EI bu:=⟨dy,vZ⟩
@[simp] theorem Ii(x:bC):(bu x).length=2:=rfl
def bj(x:aT):List V:=[(sV x.Name),(iV x.N)]
theorem dp(x:aT):cv (bj x):=(.cons (aw.con _) (.cons (aw.con _) .nil))
theorem si(x:aT):(bj x).all dF=true:=rfl
instance:EI bj:=⟨dp,si⟩
@[simp] theorem FR(x:aT):(bj x).length=2:=rfl
def aS(x:aZ):List V:=[(sV x.Kind),(sV x.Subject),(V.lst 2 (x.Texts.map bu)),(V.lst 2 (x.Numbers.map bj))]
theorem nh(x:aZ):cv (aS x):=(.cons (aw.con _) (.cons (aw.con _) (.cons (aw.lst _ _) (.cons (aw.lst _ _) .nil))))
theorem v6(x:aZ):(aS x).all dF=true:=rfl
instance:EI aS:=⟨nh,v6⟩
@[simp] theorem Ij(x:aZ):(aS x).length=4:=rfl
theorem NH{d:Nat}:m4 Tryz.prog (d+1) 4 1 false (fun l=>∃n,l=[.bool n]):=C7 (show Tryz.prog.underlying 4=some (.bool) by kernel_rfl) (show ri Tryz.prog 4=true by kernel_rfl)
theorem Ph{d:Nat}:m4 Tryz.prog (d+1) 9 1 false (fun l=>∃n,l=[.string n]):=Gr (show Tryz.prog.underlying 9=some (.string) by kernel_rfl) (show ri Tryz.prog 9=true by kernel_rfl)
theorem Pj{d:Nat}:m4 Tryz.prog (d+1) 3 1 false (fun l=>∃n,l=[.int .i64 n]):=Gs (show Tryz.prog.underlying 3=some (.int .i64) by kernel_rfl) (show ri Tryz.prog 3=true by kernel_rfl)
def oL(x:aa):List Value:=[.bool x.hasText]++([.bool x.hasNumber]++([str x.text]++([.int .i64 x.number]++[])))
theorem F2(x y:aa)(h:oL x=oL y):x=y:=by
 obtain⟨h0,h⟩:=af8 h rfl;obtain⟨h1,h⟩:=af8 h rfl;obtain⟨h2,h⟩:=af8 h rfl;obtain⟨h3,h⟩:=af8 h rfl;obtain⟨a0,a1,a2,a3⟩:=x;obtain⟨b0,b1,b2,b3⟩:=y;obtain rfl:a0=b0:=yv _ _ (ag9 h0).1;obtain rfl:a1=b1:=yv _ _ (ag9 h1).1;obtain rfl:a2=b2:=el _ _ (ag9 h2).1;obtain rfl:a3=b3:=Im _ _ (ag9 h3).1;rfl
def BN(v:Value):Prop:=∃x:aa,v=.agg (oL x).toArray
theorem u7:∀a b:aa,(Value.agg (oL a).toArray)=.agg (oL b).toArray->a=b:=fun a b h=>F2 a b (by simpa using congrArg Array.toList (Value.agg.inj h))
theorem NG {d:Nat}:m4 Tryz.prog (d+2) 98 4 true (fun l=>∃x:aa,l=oL x):=(yO (d:=d+1) (fs:=[(Field.mk "hasText" 4 0 false "" "provender/policy" 0),(Field.mk "hasNumber" 4 1 false "" "provender/policy" 1),(Field.mk "text" 9 2 false "" "provender/policy" 8),(Field.mk "number" 3 3 false "" "provender/policy" 24)]) (by kernel_rfl) (by kernel_rfl) (by kernel_rfl) (by kernel_rfl) (oH NH (by simp) rfl (by simp) (oH NH (by simp) rfl (by simp) (oH Ph (by simp) rfl (by simp) (oH Pj (by simp) rfl (by simp) ID))))).weaken (fun l ⟨x,hx⟩=>by subst hx;exact⟨_,_,rfl,⟨_,rfl⟩,⟨_,_,rfl,⟨_,rfl⟩,⟨_,_,rfl,⟨_,rfl⟩,⟨_,_,rfl,⟨_,rfl⟩,rfl⟩⟩⟩⟩)
theorem NI:m4 Tryz.prog 10000 98 4 true (fun l=>∃x:aa,l=oL x):=NG (d:=9998)
def am(p:B8×aa):Value×V:=(str p.1,(V.agg [(bV p.2.hasText),(bV p.2.hasNumber),(sV p.2.text),(iV p.2.number)]))
abbrev cC(v:aa):V:=(V.agg [(bV v.hasText),(bV v.hasNumber),(sV v.text),(iV v.number)])
theorem ed(xs:List (B8×aa))(k:B8)(v:aa):ic (str k) (cC v) (xs.map am) ((bM xs k v).map am):=r7 (kv:=fun k=>str k) (ev:=cC) el xs k v
theorem nj(xs:List (B8×aa))(k:B8):rc (str k) (xs.map am) ((di xs k).map am):=yP (kv:=fun k=>str k) (ev:=cC) el xs k
theorem dz(xs:List (B8×aa))(k:B8):i4 (str k) (xs.map am) ((aG xs k).map cC):=lF (kv:=fun k=>str k) (ev:=cC) el xs k
theorem aA{xs:List (B8×aa)}:∀p,p∈xs.map am->aw p.2:=by
 intro p hp;obtain⟨x,_,rfl⟩:=bf9.1 hp;exact(aw.agg (.cons (aw.con _) (.cons (aw.con _) (.cons (aw.con _) (.cons (aw.con _) .nil)))))
instance:EM am:=⟨fun _=>(aw.agg (.cons (aw.con _) (.cons (aw.con _) (.cons (aw.con _) (.cons (aw.con _) .nil)))))⟩
theorem b9{xs:List (B8×aa)}:∀p,p∈xs.map am->ng p.1:=by
 intro p hp;obtain⟨x,_,rfl⟩:=bf9.1 hp;exact⟨_,Y⟩
def aD(p:B8×Bool):Value×V:=(str p.1,(bV p.2))
abbrev fG(v:Bool):V:=(bV v)
theorem oK(xs:List (B8×Bool))(k:B8)(v:Bool):ic (str k) (fG v) (xs.map aD) ((bM xs k v).map aD):=r7 (kv:=fun k=>str k) (ev:=fG) el xs k v
theorem wI(xs:List (B8×Bool))(k:B8):rc (str k) (xs.map aD) ((di xs k).map aD):=yP (kv:=fun k=>str k) (ev:=fG) el xs k
theorem wH(xs:List (B8×Bool))(k:B8):i4 (str k) (xs.map aD) ((aG xs k).map fG):=lF (kv:=fun k=>str k) (ev:=fG) el xs k
theorem bF{xs:List (B8×Bool)}:∀p,p∈xs.map aD->aw p.2:=by
 intro p hp;obtain⟨x,_,rfl⟩:=bf9.1 hp;exact(aw.con _)
instance:EM aD:=⟨fun _=>(aw.con _)⟩
theorem g9{xs:List (B8×Bool)}:∀p,p∈xs.map aD->ng p.1:=by
 intro p hp;obtain⟨x,_,rfl⟩:=bf9.1 hp;exact⟨_,Y⟩
def aj(x:aq):List V:=[(V.imap (x.by_.map am)),(ju aD x.known)]
theorem bo(x:aq):cv (aj x):=(.cons (aw.imap _) (.cons (dh _) .nil))
theorem bw(x:aq):(aj x).all dF=true:=by unfold aj;simp only[ag8,List.all_nil,Ff,ah9];rfl
instance:EI aj:=⟨bo,bw⟩
theorem aI(x:aq):uQ (aj x)=true:=by unfold aj;cases x.known<;>rfl
@[simp] theorem xz(x:aq):(aj x).length=2:=rfl
def ah(x:aa):List V:=[(bV x.hasText),(bV x.hasNumber),(sV x.text),(iV x.number)]
theorem bI(x:aa):cv (ah x):=(.cons (aw.con _) (.cons (aw.con _) (.cons (aw.con _) (.cons (aw.con _) .nil))))
theorem gB(x:aa):(ah x).all dF=true:=rfl
instance:EI ah:=⟨bI,gB⟩
@[simp] theorem yq(x:aa):(ah x).length=4:=rfl
def ac(x:ab):List V:=[(bV x.isText),(bV x.isNumber),(sV x.text),(iV x.number)]
theorem az(x:ab):cv (ac x):=(.cons (aw.con _) (.cons (aw.con _) (.cons (aw.con _) (.cons (aw.con _) .nil))))
theorem ei(x:ab):(ac x).all dF=true:=rfl
instance:EI ac:=⟨az,ei⟩
@[simp] theorem rp(x:ab):(ac x).length=4:=rfl
def bK(x:(List ab)):List V:=[V.lst 4 (x.map ac)]
theorem cB(x:(List ab)):cv (bK x):=(.cons (aw.lst _ _) .nil)
theorem qe(x:(List ab)):(bK x).all dF=true:=rfl
instance:EI bK:=⟨cB,qe⟩
def aR(x:aQ):List V:=[(iV x.t.Kind),(sV x.t.Name),(V.lst 1 (x.t.Texts.map ap)),(iV x.t.Op),(iV x.t.N),(V.lst 6 (x.t.Kids.map aU.row)),(V.lst 1 (x.names.map ap)),(V.lst 1 (x.can.map bK)),(V.lst 1 (x.settled.map dJ)),(V.lst 4 (x.is.map ac))]
theorem gE(x:aQ):cv (aR x):=(.cons (aw.con _) (.cons (aw.con _) (.cons (aw.lst _ _) (.cons (aw.con _) (.cons (aw.con _) (.cons (aw.lst _ _) (.cons (aw.lst _ _) (.cons (aw.lst _ _) (.cons (aw.lst _ _) (.cons (aw.lst _ _) .nil))))))))))
theorem gL(x:aQ):(aR x).all dF=true:=rfl
instance:EI aR:=⟨gE,gL⟩
@[simp] theorem qE(x:aQ):(aR x).length=10:=rfl
def bR(x:cT):List V:=[(sV x.name),(V.lst 1 (x.texts.map ap))]
theorem ku(x:cT):cv (bR x):=(.cons (aw.con _) (.cons (aw.lst _ _) .nil))
theorem lj(x:cT):(bR x).all dF=true:=rfl
instance:EI bR:=⟨ku,lj⟩
@[simp] theorem xA(x:cT):(bR x).length=2:=rfl
def bz(x:cq):List V:=[(sV x.name),(V.lst 1 (x.texts.map ap))]
theorem iM(x:cq):cv (bz x):=(.cons (aw.con _) (.cons (aw.lst _ _) .nil))
theorem i7(x:cq):(bz x).all dF=true:=rfl
instance:EI bz:=⟨iM,i7⟩
@[simp] theorem tR(x:cq):(bz x).length=2:=rfl
def bS(x:cN):List V:=[(sV x.name)]
theorem j3(x:cN):cv (bS x):=(.cons (aw.con _) .nil)
theorem kl(x:cN):(bS x).all dF=true:=rfl
instance:EI bS:=⟨j3,kl⟩
@[simp] theorem wq(x:cN):(bS x).length=1:=rfl
def bx(x:cp):List V:=[(sV x.name),(iV x.op),(iV x.n)]
theorem iL(x:cp):cv (bx x):=(.cons (aw.con _) (.cons (aw.con _) (.cons (aw.con _) .nil)))
theorem i6(x:cp):(bx x).all dF=true:=rfl
instance:EI bx:=⟨iL,i6⟩
@[simp] theorem tQ(x:cp):(bx x).length=3:=rfl
def b8(x:cM):List V:=[(V.ifc x.kid.t x.kid.d)]
theorem jZ(x:cM):cv (b8 x):=(.cons (aw.ifc _ _) .nil)
theorem kj(x:cM):(b8 x).all dF=true:=rfl
instance:EI b8:=⟨jZ,kj⟩
@[simp] theorem wm(x:cM):(b8 x).length=1:=rfl
def bU(x:cP):List V:=[(V.lst 1 (x.kids.map KV.enc))]
theorem j5(x:cP):cv (bU x):=(.cons (aw.lst _ _) .nil)
theorem ko(x:cP):(bU x).all dF=true:=rfl
instance:EI bU:=⟨j5,ko⟩
@[simp] theorem ws(x:cP):(bU x).length=1:=rfl
def bT(x:cO):List V:=[(V.lst 1 (x.kids.map KV.enc))]
theorem j4(x:cO):cv (bT x):=(.cons (aw.lst _ _) .nil)
theorem km(x:cO):(bT x).all dF=true:=rfl
instance:EI bT:=⟨j4,km⟩
@[simp] theorem wr(x:cO):(bT x).length=1:=rfl
def ce(x:cG):List V:=[]
theorem jw(x:cG):cv (ce x):=.nil
theorem jS(x:cG):(ce x).all dF=true:=rfl
instance:EI ce:=⟨jw,jS⟩
@[simp] theorem uW(x:cG):(ce x).length=0:=rfl
def bA(x:ae):List V:=[(V.lst 1 (x.is.map ap)),(V.lst 1 (x.begins.map ap)),(V.lst 1 (x.numbers.map au)),(bV x.asText),(bV x.asNo),(bV x.has),(iV x.weight)]
theorem jY(x:ae):cv (bA x):=(.cons (aw.lst _ _) (.cons (aw.lst _ _) (.cons (aw.lst _ _) (.cons (aw.con _) (.cons (aw.con _) (.cons (aw.con _) (.cons (aw.con _) .nil)))))))
theorem ki(x:ae):(bA x).all dF=true:=rfl
instance:EI bA:=⟨jY,ki⟩
@[simp] theorem wk(x:ae):(bA x).length=7:=rfl
def cr(x:bL):List V:=[(bV x.name),(bV x.texts),(bV x.number),(iV x.kids)]
theorem lI(x:bL):cv (cr x):=(.cons (aw.con _) (.cons (aw.con _) (.cons (aw.con _) (.cons (aw.con _) .nil))))
theorem mX(x:bL):(cr x).all dF=true:=rfl
instance:EI cr:=⟨lI,mX⟩
@[simp] theorem zF(x:bL):(cr x).length=4:=rfl
def bG(x:ae):List V:=[(V.dsl 9 1 (x.is.map ap)),(V.dsl 9 1 (x.begins.map ap)),(V.dsl 3 1 (x.numbers.map au)),(bV x.asText),(bV x.asNo),(bV x.has),(iV x.weight)]
theorem dG:Oa bG bA:=fun x=>(.cons (vA _ _ aJ _) (.cons (vA _ _ aJ _) (.cons (vA _ _ bt _) (.cons (rf _) (.cons (rf _) (.cons (rf _) (.cons (rf _) .nil)))))))
@[simp] theorem uX(x:ae):(bG x).length=7:=rfl
instance:EK bG:=⟨fun x c hc=>by
 obtain⟨j,hj⟩:=bc8 hc;have hl:=(bd9.1 hj).1;rw[(dG x).1] at hl;exact((dG x).2 j c _ hj (az9 hl)).2⟩
def cz(p:B8×(Option ae)):Value×V:=(str p.1,(vX bA p.2))
abbrev jz(v:(Option ae)):V:=(vX bA v)
theorem s9(xs:List (B8×(Option ae)))(k:B8):i4 (str k) (xs.map cz) ((aG xs k).map jz):=lF (kv:=fun k=>str k) (ev:=jz) el xs k
instance:EM cz:=⟨fun _=>(F3 _)⟩
theorem ta{xs:List (B8×(Option ae))}:∀p,p∈xs.map cz->ng p.1:=by
 intro p hp;obtain⟨x,_,rfl⟩:=bf9.1 hp;exact⟨_,Y⟩
def bc(p:B8×(Option ae)):Value×V:=(str p.1,(qK 161 bG p.2))
theorem np(p:B8×(Option ae)):(bc p).1=(cz p).1/\um (bc p).2 (cz p).2/\dC (bc p).2:=⟨rfl,D6 161 dG p.2,uZ 161 p.2⟩
instance:MR bc:=⟨fun p=>(np p).2.2⟩
theorem lT{xs:List (B8×(Option ae))}:∀p,p∈xs.map bc->ng p.1:=by
 intro p hp;obtain⟨x,_,rfl⟩:=bf9.1 hp;exact⟨_,Y⟩
def bh(p:aa×Bool):Value×V:=(.agg (oL p.1).toArray,(bV p.2))
abbrev fL(v:Bool):V:=(bV v)
theorem ua(xs:List (aa×Bool))(k:aa)(v:Bool):ic (.agg (oL k).toArray) (fL v) (xs.map bh) ((bM xs k v).map bh):=r7 (kv:=fun k=>.agg (oL k).toArray) (ev:=fL) u7 xs k v
theorem ub(xs:List (aa×Bool))(k:aa):i4 (.agg (oL k).toArray) (xs.map bh) ((aG xs k).map fL):=lF (kv:=fun k=>.agg (oL k).toArray) (ev:=fL) u7 xs k
theorem bY{xs:List (aa×Bool)}:∀p,p∈xs.map bh->aw p.2:=by
 intro p hp;obtain⟨x,_,rfl⟩:=bf9.1 hp;exact(aw.con _)
instance:EM bh:=⟨fun _=>(aw.con _)⟩
theorem nq{xs:List (aa×Bool)}:∀p,p∈xs.map bh->(BN) p.1:=by
 intro p hp;obtain⟨x,_,rfl⟩:=bf9.1 hp;exact⟨_,Y⟩
def cj(p:B8×(List aa)):Value×V:=(str p.1,(V.lst 4 (p.2.map ah)))
abbrev jy(v:(List aa)):V:=(V.lst 4 (v.map ah))
theorem sY(xs:List (B8×(List aa)))(k:B8):i4 (str k) (xs.map cj) ((aG xs k).map jy):=lF (kv:=fun k=>str k) (ev:=jy) el xs k
instance:EM cj:=⟨fun _=>(aw.lst _ _)⟩
theorem sZ{xs:List (B8×(List aa))}:∀p,p∈xs.map cj->ng p.1:=by
 intro p hp;obtain⟨x,_,rfl⟩:=bf9.1 hp;exact⟨_,Y⟩
def aP(p:B8×(List aa)):Value×V:=(str p.1,(V.dsl 98 4 (p.2.map ah)))
theorem nl(p:B8×(List aa)):(aP p).1=(cj p).1/\um (aP p).2 (cj p).2/\dC (aP p).2:=⟨rfl,xK bI _,dC.dsl _ _ _⟩
instance:MR aP:=⟨fun p=>(nl p).2.2⟩
theorem sX{xs:List (B8×(List aa))}:∀p,p∈xs.map aP->ng p.1:=by
 intro p hp;obtain⟨x,_,rfl⟩:=bf9.1 hp;exact⟨_,Y⟩
theorem JN:mW Tryz.prog 23 6=true:=by kernel_rfl
theorem KD:zeroCells Tryz.prog 25=some [.int .i64 0,.string ⟨#[]⟩,.slice none 0 0,.int .i64 0,.int .i64 0,.slice none 0 0]:=by kernel_rfl
theorem MX:zeroCells Tryz.prog 208=some [.bool false,.bool false,.bool false,.int .i64 0,.bool false,.bool false,.bool false,.int .i64 0,.bool false,.bool false,.bool false,.int .i64 0,.bool false,.bool false,.bool false,.int .i64 0,.bool false,.bool false,.bool false,.int .i64 0,.bool false,.bool false,.bool false,.int .i64 0,.bool false,.bool false,.bool false,.int .i64 0,.bool false,.bool false,.bool false,.int .i64 0,.bool false,.bool false,.bool false,.int .i64 0]:=by kernel_rfl
theorem JM:zeroCells Tryz.prog 207=some [.bool false,.bool false,.bool false,.int .i64 0]:=by kernel_rfl
theorem HU:m8 Tryz.prog 208 9 4=true:=by kernel_rfl
theorem EE:nC Tryz.prog 208 9 4 207=true:=by kernel_rfl
theorem tC9:ri Tryz.prog 9=true:=by kernel_rfl
theorem jd:cQ Tryz.prog 22=true:=by kernel_rfl
theorem Bo:jO Tryz.prog 9=true:=by kernel_rfl
theorem Ek:mW Tryz.prog 22 1=true:=by kernel_rfl
theorem MV:zeroCells Tryz.prog 39=some [.string ⟨#[]⟩,.string ⟨#[]⟩]:=by kernel_rfl
theorem MU:zeroCells Tryz.prog 41=some [.string ⟨#[]⟩,.int .i64 0]:=by kernel_rfl
theorem KG:eQ Tryz.prog 109 75 1 16=true:=by kernel_rfl
theorem OY:zeroCells Tryz.prog 75=some [.nilIface]:=by kernel_rfl
theorem KQ:Program.concrete Tryz.prog 147=true:=by kernel_rfl
theorem KP:Program.concrete Tryz.prog 148=true:=by kernel_rfl
theorem KO:Program.concrete Tryz.prog 150=true:=by kernel_rfl
theorem KM:Program.concrete Tryz.prog 152=true:=by kernel_rfl
theorem KK:Program.concrete Tryz.prog 154=true:=by kernel_rfl
theorem KJ:Program.concrete Tryz.prog 156=true:=by kernel_rfl
theorem KI:Program.concrete Tryz.prog 157=true:=by kernel_rfl
theorem KH:Program.concrete Tryz.prog 159=true:=by kernel_rfl
theorem O1:Hx Tryz.prog 75 1=true:=by kernel_rfl
theorem Ev:pi Tryz.prog 147=true:=by kernel_rfl
theorem BW:cE Tryz.prog 89=true:=by kernel_rfl
theorem tS4:Hx Tryz.prog 4 1=true:=by kernel_rfl
theorem fX:eQ Tryz.prog 22 9 1 16=true:=by kernel_rfl
theorem KB:(Tryz.prog.info? 147).bind (·.zero)=some (.agg #[.string ⟨#[]⟩,.slice none 0 0]):=by kernel_rfl
theorem Eu:pi Tryz.prog 148=true:=by kernel_rfl
theorem KA:(Tryz.prog.info? 148).bind (·.zero)=some (.agg #[.string ⟨#[]⟩,.slice none 0 0]):=by kernel_rfl
theorem Et:pi Tryz.prog 150=true:=by kernel_rfl
theorem Kz:(Tryz.prog.info? 150).bind (·.zero)=some (.agg #[.string ⟨#[]⟩]):=by kernel_rfl
theorem Es:pi Tryz.prog 152=true:=by kernel_rfl
theorem gz:eQ Tryz.prog 51 3 1 8=true:=by kernel_rfl
theorem Bm:zeroCells Tryz.prog 3=some [.int .i64 0]:=by kernel_rfl
theorem vQ:cQ Tryz.prog 51=true:=by kernel_rfl
theorem Ky:(Tryz.prog.info? 152).bind (·.zero)=some (.agg #[.string ⟨#[]⟩,.int .i64 0,.int .i64 0]):=by kernel_rfl
theorem Er:pi Tryz.prog 154=true:=by kernel_rfl
theorem Kx:(Tryz.prog.info? 154).bind (·.zero)=some (.agg #[.nilIface]):=by kernel_rfl
theorem Ep:pi Tryz.prog 156=true:=by kernel_rfl
theorem Kw:(Tryz.prog.info? 156).bind (·.zero)=some (.agg #[.slice none 0 0]):=by kernel_rfl
theorem Eo:pi Tryz.prog 157=true:=by kernel_rfl
theorem Kv:(Tryz.prog.info? 157).bind (·.zero)=some (.agg #[.slice none 0 0]):=by kernel_rfl
theorem BX:cE Tryz.prog 33=true:=by kernel_rfl
theorem lv:eh Tryz.prog 77 9 103=true:=by kernel_rfl
theorem O0:Hx Tryz.prog 94 2=true:=by kernel_rfl
theorem fj:eh Tryz.prog 91 9 98=true:=by kernel_rfl
theorem dD:ja Tryz.prog 9 ng:=sD (by kernel_rfl)
theorem qa:(Tryz.prog.info? 98).bind (·.zero)=some (.agg #[.bool false,.bool false,.string ⟨#[]⟩,.int .i64 0]):=by kernel_rfl
theorem HT:zeroCells Tryz.prog 98=some [.bool false,.bool false,.string ⟨#[]⟩,.int .i64 0]:=by kernel_rfl
theorem O2:zy Tryz.prog 98 4=true:=by kernel_rfl
theorem tT:zy Tryz.prog 94 2=true:=by kernel_rfl
theorem KR:ri Tryz.prog 92=true:=by kernel_rfl
theorem Bq:xO Tryz.prog 92=true:=by kernel_rfl
theorem vG:eh Tryz.prog 92 9 4=true:=by kernel_rfl
theorem Ku:(Tryz.prog.info? 4).bind (·.zero)=some (.bool false):=by kernel_rfl
theorem wG:cE Tryz.prog 281=true:=by kernel_rfl
theorem Gm:cE Tryz.prog 237=true:=by kernel_rfl
theorem vP:∀(v:Value) (args:Array Value) (w:World),(callMethod (.iface 147 v) "provender/policy.holds" args).run Tryz.prog w=.ok (.enter 282 (#[v]++args)) w:=fun v args w=>by kernel_rfl
theorem vO:∀(v:Value) (args:Array Value) (w:World),(callMethod (.iface 148 v) "provender/policy.holds" args).run Tryz.prog w=.ok (.enter 283 (#[v]++args)) w:=fun v args w=>by kernel_rfl
theorem vN:∀(v:Value) (args:Array Value) (w:World),(callMethod (.iface 150 v) "provender/policy.holds" args).run Tryz.prog w=.ok (.enter 285 (#[v]++args)) w:=fun v args w=>by kernel_rfl
theorem vM:∀(v:Value) (args:Array Value) (w:World),(callMethod (.iface 152 v) "provender/policy.holds" args).run Tryz.prog w=.ok (.enter 286 (#[v]++args)) w:=fun v args w=>by kernel_rfl
theorem vL:∀(v:Value) (args:Array Value) (w:World),(callMethod (.iface 154 v) "provender/policy.holds" args).run Tryz.prog w=.ok (.enter 288 (#[v]++args)) w:=fun v args w=>by kernel_rfl
theorem vK:∀(v:Value) (args:Array Value) (w:World),(callMethod (.iface 156 v) "provender/policy.holds" args).run Tryz.prog w=.ok (.enter 289 (#[v]++args)) w:=fun v args w=>by kernel_rfl
theorem vJ:∀(v:Value) (args:Array Value) (w:World),(callMethod (.iface 157 v) "provender/policy.holds" args).run Tryz.prog w=.ok (.enter 290 (#[v]++args)) w:=fun v args w=>by kernel_rfl
theorem vI:∀(v:Value) (args:Array Value) (w:World),(callMethod (.iface 159 v) "provender/policy.holds" args).run Tryz.prog w=.ok (.enter 291 (#[v]++args)) w:=fun v args w=>by kernel_rfl
theorem tZ4:zeroCells Tryz.prog 4=some [.bool false]:=by kernel_rfl
theorem J0:cE Tryz.prog 48=true:=by kernel_rfl
theorem J1:cE Tryz.prog 47=true:=by kernel_rfl
theorem AG:cE Tryz.prog 109=true:=by kernel_rfl
theorem Hz:zeroCells Tryz.prog 9=some [.string ⟨#[]⟩]:=by kernel_rfl
theorem KC:(Tryz.prog.info? 103).bind (·.zero)=some (.pointer none):=by kernel_rfl
theorem Bp:eh Tryz.prog 167 98 4=true:=by kernel_rfl
theorem Ew:ja Tryz.prog 98 BN:=FX NI (by kernel_rfl) (fun v ⟨x,hx⟩=>⟨_,⟨x,rfl⟩,hx⟩)
theorem vH:eh Tryz.prog 163 9 169=true:=by kernel_rfl
theorem Ej:(Tryz.prog.info? 169).bind (·.zero)=some (.slice none 0 0):=by kernel_rfl
theorem rT:eQ Tryz.prog 169 98 4 32=true:=by kernel_rfl
theorem Ex:cQ Tryz.prog 169=true:=by kernel_rfl
theorem MZ:mW Tryz.prog 51 1=true:=by kernel_rfl
theorem Ny:cE Tryz.prog 59=true:=by kernel_rfl
theorem Lt:cE Tryz.prog 186=true:=by kernel_rfl
theorem J3:cE Tryz.prog 29=true:=by kernel_rfl
theorem OZ:Tryz.prog.underlying 21=some (.int .i32):=by kernel_rfl
theorem Ls:cE Tryz.prog 188=true:=by kernel_rfl
theorem Nu:cE Tryz.prog 90=true:=by kernel_rfl
theorem NB:cE Tryz.prog 35=true:=by kernel_rfl
theorem NA:cE Tryz.prog 49=true:=by kernel_rfl
theorem J2:cE Tryz.prog 36=true:=by kernel_rfl
theorem zO:∀T,T∈([147,148,150,152,154,156,157,159]:List Nat)->∀(v:Value) (w:World),(nilAhead (Tryz.prog.types.size+Made.depth) T v "provender/policy.holds").run Tryz.prog w=.ok (some false) w:=fun T h=>by
 simp only[as9,List.not_mem_nil,or_false] at h;rcases h with rfl|rfl|rfl|rfl|rfl|rfl|rfl|rfl
 all_goals exact fun v w=>by kernel_rfl
theorem JP:eQ Tryz.prog 26 39 2 32=true:=by kernel_rfl
theorem JO:eQ Tryz.prog 27 41 2 24=true:=by kernel_rfl
theorem Nx:cE Tryz.prog 75=true:=by kernel_rfl
theorem Nw:cE Tryz.prog 77=true:=by kernel_rfl
theorem MW:zeroCells Tryz.prog 214=some [.string ⟨#[]⟩,.string ⟨#[]⟩,.string ⟨#[]⟩,.string ⟨#[]⟩,.string ⟨#[]⟩,.string ⟨#[]⟩,.string ⟨#[]⟩,.string ⟨#[]⟩,.string ⟨#[]⟩,.string ⟨#[]⟩,.string ⟨#[]⟩,.string ⟨#[]⟩,.string ⟨#[]⟩,.string ⟨#[]⟩,.string ⟨#[]⟩,.string ⟨#[]⟩,.string ⟨#[]⟩,.string ⟨#[]⟩,.string ⟨#[]⟩,.string ⟨#[]⟩]:=by kernel_rfl
theorem Br:m8 Tryz.prog 214 20 1=true:=by kernel_rfl
theorem NC:cE Tryz.prog 28=true:=by kernel_rfl
theorem lu:zeroCells Tryz.prog 142=some [.bool false,.bool false,.string ⟨#[]⟩,.int .i64 0]:=by kernel_rfl
theorem Em:Hx Tryz.prog 142 4=true:=by kernel_rfl
theorem EB:eQ Tryz.prog 23 25 6 88=true:=by kernel_rfl
theorem Nz:cE Tryz.prog 51=true:=by kernel_rfl
theorem Gk:cE Tryz.prog 97=true:=by kernel_rfl
theorem gK:eQ Tryz.prog 138 142 4 32=true:=by kernel_rfl
theorem KE:eQ Tryz.prog 257 5 1 1=true:=by kernel_rfl
theorem tZ5:zeroCells Tryz.prog 5=some [.int .u8 0]:=by kernel_rfl
theorem KS:rj Tryz.prog 257=true:=by kernel_rfl
theorem Ey:cQ Tryz.prog 138=true:=by kernel_rfl
theorem Lw:cE Tryz.prog 124=true:=by kernel_rfl
theorem ED:eQ Tryz.prog 136 138 1 24=true:=by kernel_rfl
theorem MY:zeroCells Tryz.prog 138=some [.slice none 0 0]:=by kernel_rfl
theorem Ez:cQ Tryz.prog 136=true:=by kernel_rfl
theorem KF:eQ Tryz.prog 137 4 1 1=true:=by kernel_rfl
theorem Nv:cE Tryz.prog 82=true:=by kernel_rfl
theorem Lv:cE Tryz.prog 126=true:=by kernel_rfl
theorem Lu:cE Tryz.prog 127=true:=by kernel_rfl
theorem JZ:cE Tryz.prog 85=true:=by kernel_rfl
theorem ND:cE Tryz.prog 27=true:=by kernel_rfl
def tt:TT:=[(3,[.C,.S 1]),(4,[.C,.S 1,.Z 1 [.bool false],.B]),(5,[.U]),(9,[.C,.Str,.S 1,.Z 1 [.string ⟨#[]⟩]]),(11,[.Fn]),(12,[.Fn]),(15,[.Fn]),(21,[.I .i32]),(22,[.C,.Sn,.Sl 1,.S 1,.El 9 1 16]),(23,[.C,.Sn,.Sl 6,.El 25 6 88]),(25,[.S 6,.A 6,.F 5 5,.Z 6 [.int .i64 0,.string ⟨#[]⟩,.slice none 0 0,.int .i64 0,.int .i64 0,.slice none 0 0],.F 0 0,.F 1 1,.F 2 2,.F 3 3,.F 4 4,.Fn,.Pl [(0,1),(1,1),(2,1),(3,1),(4,1),(5,1)]]),(26,[.C,.Sn,.Sl 2,.El 39 2 32,.S 1,.Fn]),(27,[.C,.Sn,.Sl 2,.El 41 2 24,.S 1]),(29,[.S 4,.A 4,.F 0 0,.F 1 1,.F 2 2,.F 3 3,.Z 4 [.string ⟨#[]⟩,.string ⟨#[]⟩,.slice none 0 0,.slice none 0 0],.Pl [(0,1),(1,1),(2,1),(3,1)]]),(30,[.Fn]),(31,[.Fn]),(32,[.Fn]),(34,[.Fn]),(39,[.A 2,.Z 2 [.string ⟨#[]⟩,.string ⟨#[]⟩],.S 2,.F 0 0,.F 1 1,.Fn]),(41,[.A 2,.Z 2 [.string ⟨#[]⟩,.int .i64 0],.S 2,.F 0 0,.F 1 1]),(43,[.Fn]),(44,[.Fn]),(50,[.Fn]),(51,[.C,.S 1,.Sn,.Sl 1,.El 3 1 8,.Fn]),(53,[.Fn]),(72,[.Fn]),(74,[.Fn]),(75,[.C,.Z 1 [.nilIface]]),(77,[.S 1,.C]),(79,[.Fn]),(80,[.Z 1 [.pointer none],.S 1,.C,.Fn]),(81,[.Fn]),(82,[.C]),(83,[.Fn]),(84,[.Fn]),(86,[.Fn]),(87,[.Fn]),(88,[.Fn]),(91,[.C]),(92,[.C]),(94,[.Z 2 [.map none,.map none],.Pl [(0,1),(1,1)],.S 2,.F 0 0,.A 2,.F 1 1]),(95,[.Fn]),(96,[.Fn]),(98,[.Z 4 [.bool false,.bool false,.string ⟨#[]⟩,.int .i64 0],.S 4,.F 0 0,.F 2 2,.A 4,.F 1 1,.F 3 3,.Pl [(0,1),(1,1),(2,1),(3,1)],.Fn]),(105,[.Fn]),(106,[.Fn]),(109,[.El 75 1 16,.Sn,.Sl 1,.C]),(111,[.Fn]),(112,[.Fn]),(121,[.Fn]),(124,[.Fn]),(125,[.Fn]),(126,[.Fn]),(128,[.Fn]),(129,[.Fn]),(130,[.Fn]),(131,[.Fn]),(132,[.Fn]),(136,[.C,.S 1,.Sl 1]),(137,[.S 1,.C,.Sl 1]),(138,[.Fn,.El 142 4 32,.Sn,.S 1,.C,.Sl 4]),(140,[.Z 10 [.int .i64 0,.string ⟨#[]⟩,.slice none 0 0,.int .i64 0,.int .i64 0,.slice none 0 0,.slice none 0 0,.slice none 0 0,.slice none 0 0,.slice none 0 0],.Pl [(0,6),(6,1),(7,1),(8,1),(9,1)],.S 10,.F 1 6,.F 2 7,.F 3 8,.F 4 9,.F 0 0]),(142,[.Z 4 [.bool false,.bool false,.string ⟨#[]⟩,.int .i64 0],.Pl [(0,1),(1,1),(2,1),(3,1)],.S 4,.F 0 0,.F 2 2,.F 1 1,.F 3 3,.A 4]),(147,[.Z 2 [.string ⟨#[]⟩,.slice none 0 0],.Pl [(0,1),(1,1)],.S 2,.F 0 0,.F 1 1,.Fn]),(148,[.Z 2 [.string ⟨#[]⟩,.slice none 0 0],.Pl [(0,1),(1,1)],.S 2,.F 0 0,.F 1 1,.Fn]),(150,[.Z 1 [.string ⟨#[]⟩],.Pl [(0,1)],.S 1,.F 0 0]),(152,[.Z 3 [.string ⟨#[]⟩,.int .i64 0,.int .i64 0],.Pl [(0,1),(1,1),(2,1)],.S 3,.F 0 0,.F 2 2,.F 1 1]),(154,[.Z 1 [.nilIface],.Pl [(0,1)],.S 1,.F 0 0]),(156,[.Z 1 [.slice none 0 0],.Pl [(0,1)],.S 1,.F 0 0]),(157,[.Z 1 [.slice none 0 0],.Pl [(0,1)],.S 1,.F 0 0]),(159,[.Z 0 [],.Pl [],.S 0]),(161,[.Z 7 [.slice none 0 0,.slice none 0 0,.slice none 0 0,.bool false,.bool false,.bool false,.int .i64 0],.Pl [(0,1),(1,1),(2,1),(3,1),(4,1),(5,1),(6,1)],.S 7,.F 0 0,.F 6 6,.F 3 3,.F 1 1,.F 5 5,.F 2 2,.F 4 4]),(163,[.C]),(165,[.Z 5 [.slice none 0 0,.map none,.map none,.map none,.nilFunc],.Pl [(0,1),(1,1),(2,2),(4,1)],.S 5,.F 2 2,.F 0 0,.F 1 1,.F 3 4]),(167,[.Z 1 [.map none],.S 1,.C]),(169,[.El 98 4 32,.Sn,.Sl 4]),(183,[.Fn]),(184,[.Fn]),(185,[.Fn]),(187,[.Fn]),(190,[.Fn]),(207,[.Z 4 [.bool false,.bool false,.bool false,.int .i64 0],.Pl [(0,1),(1,1),(2,1),(3,1)],.S 4,.F 0 0,.F 1 1,.F 2 2,.F 3 3]),(208,[.Z 36 [.bool false,.bool false,.bool false,.int .i64 0,.bool false,.bool false,.bool false,.int .i64 0,.bool false,.bool false,.bool false,.int .i64 0,.bool false,.bool false,.bool false,.int .i64 0,.bool false,.bool false,.bool false,.int .i64 0,.bool false,.bool false,.bool false,.int .i64 0,.bool false,.bool false,.bool false,.int .i64 0,.bool false,.bool false,.bool false,.int .i64 0,.bool false,.bool false,.bool false,.int .i64 0],.S 36,.A 36]),(214,[.Z 20 [.string ⟨#[]⟩,.string ⟨#[]⟩,.string ⟨#[]⟩,.string ⟨#[]⟩,.string ⟨#[]⟩,.string ⟨#[]⟩,.string ⟨#[]⟩,.string ⟨#[]⟩,.string ⟨#[]⟩,.string ⟨#[]⟩,.string ⟨#[]⟩,.string ⟨#[]⟩,.string ⟨#[]⟩,.string ⟨#[]⟩,.string ⟨#[]⟩,.string ⟨#[]⟩,.string ⟨#[]⟩,.string ⟨#[]⟩,.string ⟨#[]⟩,.string ⟨#[]⟩],.S 20,.Arr 20 1]),(221,[.Fn]),(222,[.Fn]),(223,[.Fn]),(238,[.Fn]),(247,[.Fn]),(284,[.Fn]),(287,[.Fn])]
theorem ok:cK Tryz.prog tt:=MS (by kernel_rfl) (by kernel_rfl) trivial
instance {N:Nat} {w:World} {m:bB} {o:Nat->Prop} {p:Nat} {l:Nat->Option (Option (Nat×ol))} {g:Gl} {h:fU g m} {q:Option Nat}:TC ⟨Tryz.prog,N,w,m,o,p,l,g,h,q⟩ tt:=⟨ok⟩
end Go.Proofs.YtelmfadihfcgnaaGreatDoor
