/- Part of the proof. -/
import Derived.Test.YtelmfadihfcgnaaGreatDoorGYS
import Derived.Test.YtelmfadihfcgnaaGreatDoorProg
set_option linter.unusedSimpArgs false
set_option linter.unusedVariables false
namespace Go.Proofs.YtelmfadihfcgnaaGreatDoor
open Go Go.Pv
set_option maxRecDepth 100000
theorem mixed:Tryz.prog.follows .mixedOrders=true:=by kernel_rfl
structure aC where
 Kind:Int
 Name:B8
 Texts:(List B8)
 Op:Int
 N:Int
 Kids:(List aM)
structure dB where
 Name:B8
 Value:B8
 deriving DecidableEq
structure cp where
 Name:B8
 N:Int
 deriving DecidableEq
structure bC where
 Kind:B8
 Subject:B8
 Texts:(List dB)
 Numbers:(List cp)
 deriving DecidableEq
structure bH where
 name:Bool
 texts:Bool
 number:Bool
 kids:Int
 deriving DecidableEq
structure cT where
 name:B8
 texts:(List B8)
 deriving DecidableEq
structure ct where
 name:B8
 texts:(List B8)
 deriving DecidableEq
structure cO where
 name:B8
 deriving DecidableEq
structure cr where
 name:B8
 op:Int
 n:Int
 deriving DecidableEq
structure cN where
 kid:KV
structure cQ where
 kids:(List KV)
structure cP where
 kids:(List KV)
structure cH where
 deriving DecidableEq
structure ae where
 is:(List B8)
 begins:(List B8)
 numbers:(List Int)
 asText:Bool
 asNo:Bool
 has:Bool
 weight:Int
 deriving DecidableEq
structure aa where
 hasText:Bool
 hasNumber:Bool
 text:B8
 number:Int
 deriving DecidableEq
structure aq where
 by_:(List (B8×aa))
 known:(Option (List (B8×Bool)))
 deriving DecidableEq
structure ab where
 isText:Bool
 isNumber:Bool
 text:B8
 number:Int
 deriving DecidableEq
structure aQ where
 t:aC
 names:(List B8)
 can:(List (List ab))
 settled:(List Bool)
 is:(List ab)
def au(x:Int):List V:=[(iV x)]
theorem bk(x:Int):cz (au x):=(.cons (aw.con _) .nil)
theorem gT(x:Int):(au x).all dC=true:=rfl
instance:EI au:=⟨bk,gT⟩
def dH(x:Bool):List V:=[(bV x)]
theorem dG(x:Bool):cz (dH x):=(.cons (aw.con _) .nil)
theorem ER(x:Bool):(dH x).all dC=true:=rfl
instance:EI dH:=⟨dG,ER⟩
def ap(x:B8):List V:=[(sV x)]
theorem aL(x:B8):cz (ap x):=(.cons (aw.con _) .nil)
theorem gC(x:B8):(ap x).all dC=true:=rfl
instance:EI ap:=⟨aL,gC⟩
def ah(x:aC):List V:=[(iV x.Kind),(sV x.Name),(V.lst 1 (x.Texts.map ap)),(iV x.Op),(iV x.N),(V.lst 6 (x.Kids.map aM.row))]
theorem cv(x:aC):cz (ah x):=(.cons (aw.con _) (.cons (aw.con _) (.cons (aw.lst _ _) (.cons (aw.con _) (.cons (aw.con _) (.cons (aw.lst _ _) .nil))))))
theorem gS(x:aC):(ah x).all dC=true:=rfl
instance:EI ah:=⟨cv,gS⟩
@[simp] theorem HR(x:aC):(ah x).length=6:=rfl
def eV(x:dB):List V:=[(sV x.Name),(sV x.Value)]
theorem tJ(x:dB):cz (eV x):=(.cons (aw.con _) (.cons (aw.con _) .nil))
theorem vJ(x:dB):(eV x).all dC=true:=rfl
instance:EI eV:=⟨tJ,vJ⟩
@[simp] theorem HT(x:dB):(eV x).length=2:=rfl
def du(x:cp):List V:=[(sV x.Name),(iV x.N)]
theorem qm(x:cp):cz (du x):=(.cons (aw.con _) (.cons (aw.con _) .nil))
theorem rP(x:cp):(du x).all dC=true:=rfl
instance:EI du:=⟨qm,rP⟩
@[simp] theorem Fu(x:cp):(du x).length=2:=rfl
def bj(x:bC):List V:=[(sV x.Kind),(sV x.Subject),(V.lst 2 (x.Texts.map eV)),(V.lst 2 (x.Numbers.map du))]
theorem tK(x:bC):cz (bj x):=(.cons (aw.con _) (.cons (aw.con _) (.cons (aw.lst _ _) (.cons (aw.lst _ _) .nil))))
theorem vK(x:bC):(bj x).all dC=true:=rfl
instance:EI bj:=⟨tK,vK⟩
@[simp] theorem HU(x:bC):(bj x).length=4:=rfl
theorem M9{d:Nat}:mV Tryz.prog (d+1) 4 1 false (fun l=>∃n,l=[.bool n]):=CQ (show Tryz.prog.underlying 4=some (.bool) by kernel_rfl) (show qH Tryz.prog 4=true by kernel_rfl)
theorem ON{d:Nat}:mV Tryz.prog (d+1) 9 1 false (fun l=>∃n,l=[.string n]):=FZ (show Tryz.prog.underlying 9=some (.string) by kernel_rfl) (show qH Tryz.prog 9=true by kernel_rfl)
theorem OO{d:Nat}:mV Tryz.prog (d+1) 3 1 false (fun l=>∃n,l=[.int .i64 n]):=F1 (show Tryz.prog.underlying 3=some (.int .i64) by kernel_rfl) (show qH Tryz.prog 3=true by kernel_rfl)
def oE(x:aa):List Value:=[.bool x.hasText]++([.bool x.hasNumber]++([str x.text]++([.int .i64 x.number]++[])))
theorem FE(x y:aa)(h:oE x=oE y):x=y:=by
 obtain⟨h0,h⟩:=af8 h rfl;obtain⟨h1,h⟩:=af8 h rfl;obtain⟨h2,h⟩:=af8 h rfl;obtain⟨h3,h⟩:=af8 h rfl;obtain⟨a0,a1,a2,a3⟩:=x;obtain⟨b0,b1,b2,b3⟩:=y;obtain rfl:a0=b0:=x3 _ _ (List.cons.inj h0).1;obtain rfl:a1=b1:=x3 _ _ (List.cons.inj h1).1;obtain rfl:a2=b2:=ei _ _ (List.cons.inj h2).1;obtain rfl:a3=b3:=HX _ _ (List.cons.inj h3).1;rfl
def By(v:Value):Prop:=∃x:aa,v=.agg (oE x).toArray
theorem uO:∀a b:aa,(Value.agg (oE a).toArray)=.agg (oE b).toArray->a=b:=fun a b h=>FE a b (by simpa using congrArg Array.toList (Value.agg.inj h))
theorem M8 {d:Nat}:mV Tryz.prog (d+2) 98 4 true (fun l=>∃x:aa,l=oE x):=(yt (d:=d+1) (fs:=[(Field.mk "hasText" 4 0 false "" "provender/policy" 0),(Field.mk "hasNumber" 4 1 false "" "provender/policy" 1),(Field.mk "text" 9 2 false "" "provender/policy" 8),(Field.mk "number" 3 3 false "" "provender/policy" 24)]) (by kernel_rfl) (by kernel_rfl) (by kernel_rfl) (by kernel_rfl) (oy M9 (by simp) rfl (by simp) (oy M9 (by simp) rfl (by simp) (oy ON (by simp) rfl (by simp) (oy OO (by simp) rfl (by simp) Ia))))).weaken (fun l ⟨x,hx⟩=>by subst hx;exact⟨_,_,rfl,⟨_,rfl⟩,⟨_,_,rfl,⟨_,rfl⟩,⟨_,_,rfl,⟨_,rfl⟩,⟨_,_,rfl,⟨_,rfl⟩,rfl⟩⟩⟩⟩)
theorem Na:mV Tryz.prog 10000 98 4 true (fun l=>∃x:aa,l=oE x):=M8 (d:=9998)
def am(p:B8×aa):Value×V:=(str p.1,(V.agg [(bV p.2.hasText),(bV p.2.hasNumber),(sV p.2.text),(iV p.2.number)]))
abbrev cF(v:aa):V:=(V.agg [(bV v.hasText),(bV v.hasNumber),(sV v.text),(iV v.number)])
theorem dZ(xs:List (B8×aa))(k:B8)(v:aa):g8 (str k) (cF v) (xs.map am) ((bI xs k v).map am):=rH (kv:=fun k=>str k) (ev:=cF) ei xs k v
theorem na(xs:List (B8×aa))(k:B8):qE (str k) (xs.map am) ((dj xs k).map am):=yu (kv:=fun k=>str k) (ev:=cF) ei xs k
theorem dw(xs:List (B8×aa))(k:B8):iS (str k) (xs.map am) ((aH xs k).map cF):=ly (kv:=fun k=>str k) (ev:=cF) ei xs k
theorem az{xs:List (B8×aa)}:∀p,p∈xs.map am->aw p.2:=by
 intro p hp;obtain⟨x,_,rfl⟩:=bc9.1 hp;exact(aw.agg (.cons (aw.con _) (.cons (aw.con _) (.cons (aw.con _) (.cons (aw.con _) .nil)))))
instance:EM am:=⟨fun _=>(aw.agg (.cons (aw.con _) (.cons (aw.con _) (.cons (aw.con _) (.cons (aw.con _) .nil)))))⟩
theorem bW{xs:List (B8×aa)}:∀p,p∈xs.map am->m8 p.1:=by
 intro p hp;obtain⟨x,_,rfl⟩:=bc9.1 hp;exact⟨_,Y⟩
def aG(p:B8×Bool):Value×V:=(str p.1,(bV p.2))
abbrev fB(v:Bool):V:=(bV v)
theorem oC(xs:List (B8×Bool))(k:B8)(v:Bool):g8 (str k) (fB v) (xs.map aG) ((bI xs k v).map aG):=rH (kv:=fun k=>str k) (ev:=fB) ei xs k v
theorem wo(xs:List (B8×Bool))(k:B8):qE (str k) (xs.map aG) ((dj xs k).map aG):=yu (kv:=fun k=>str k) (ev:=fB) ei xs k
theorem wm(xs:List (B8×Bool))(k:B8):iS (str k) (xs.map aG) ((aH xs k).map fB):=ly (kv:=fun k=>str k) (ev:=fB) ei xs k
theorem bx{xs:List (B8×Bool)}:∀p,p∈xs.map aG->aw p.2:=by
 intro p hp;obtain⟨x,_,rfl⟩:=bc9.1 hp;exact(aw.con _)
instance:EM aG:=⟨fun _=>(aw.con _)⟩
theorem gY{xs:List (B8×Bool)}:∀p,p∈xs.map aG->m8 p.1:=by
 intro p hp;obtain⟨x,_,rfl⟩:=bc9.1 hp;exact⟨_,Y⟩
def aj(x:aq):List V:=[(V.imap (x.by_.map am)),(jk aG x.known)]
theorem bu(x:aq):cz (aj x):=(.cons (aw.imap _) (.cons (dh _) .nil))
theorem bq(x:aq):(aj x).all dC=true:=by unfold aj;simp only[ag9,List.all_nil,EP,ag8];rfl
instance:EI aj:=⟨bu,bq⟩
theorem aI(x:aq):uy (aj x)=true:=by unfold aj;cases x.known<;>rfl
@[simp] theorem xi(x:aq):(aj x).length=2:=rfl
def ai(x:aa):List V:=[(bV x.hasText),(bV x.hasNumber),(sV x.text),(iV x.number)]
theorem bD(x:aa):cz (ai x):=(.cons (aw.con _) (.cons (aw.con _) (.cons (aw.con _) (.cons (aw.con _) .nil))))
theorem gB(x:aa):(ai x).all dC=true:=rfl
instance:EI ai:=⟨bD,gB⟩
@[simp] theorem xX(x:aa):(ai x).length=4:=rfl
def ac(x:ab):List V:=[(bV x.isText),(bV x.isNumber),(sV x.text),(iV x.number)]
theorem ay(x:ab):cz (ac x):=(.cons (aw.con _) (.cons (aw.con _) (.cons (aw.con _) (.cons (aw.con _) .nil))))
theorem eg(x:ab):(ac x).all dC=true:=rfl
instance:EI ac:=⟨ay,eg⟩
@[simp] theorem qQ(x:ab):(ac x).length=4:=rfl
def bE(x:(List ab)):List V:=[V.lst 4 (x.map ac)]
theorem cE(x:(List ab)):cz (bE x):=(.cons (aw.lst _ _) .nil)
theorem pR(x:(List ab)):(bE x).all dC=true:=rfl
instance:EI bE:=⟨cE,pR⟩
def aR(x:aQ):List V:=[(iV x.t.Kind),(sV x.t.Name),(V.lst 1 (x.t.Texts.map ap)),(iV x.t.Op),(iV x.t.N),(V.lst 6 (x.t.Kids.map aM.row)),(V.lst 1 (x.names.map ap)),(V.lst 1 (x.can.map bE)),(V.lst 1 (x.settled.map dH)),(V.lst 4 (x.is.map ac))]
theorem gE(x:aQ):cz (aR x):=(.cons (aw.con _) (.cons (aw.con _) (.cons (aw.lst _ _) (.cons (aw.con _) (.cons (aw.con _) (.cons (aw.lst _ _) (.cons (aw.lst _ _) (.cons (aw.lst _ _) (.cons (aw.lst _ _) (.cons (aw.lst _ _) .nil))))))))))
theorem gJ(x:aQ):(aR x).all dC=true:=rfl
instance:EI aR:=⟨gE,gJ⟩
@[simp] theorem ql(x:aQ):(aR x).length=10:=rfl
def bK(x:cT):List V:=[(sV x.name),(V.lst 1 (x.texts.map ap))]
theorem kc(x:cT):cz (bK x):=(.cons (aw.con _) (.cons (aw.lst _ _) .nil))
theorem kV(x:cT):(bK x).all dC=true:=rfl
instance:EI bK:=⟨kc,kV⟩
@[simp] theorem xj(x:cT):(bK x).length=2:=rfl
def bt(x:ct):List V:=[(sV x.name),(V.lst 1 (x.texts.map ap))]
theorem iC(x:ct):cz (bt x):=(.cons (aw.con _) (.cons (aw.lst _ _) .nil))
theorem iW(x:ct):(bt x).all dC=true:=rfl
instance:EI bt:=⟨iC,iW⟩
@[simp] theorem tz(x:ct):(bt x).length=2:=rfl
def bM(x:cO):List V:=[(sV x.name)]
theorem jO(x:cO):cz (bM x):=(.cons (aw.con _) .nil)
theorem j8(x:cO):(bM x).all dC=true:=rfl
instance:EI bM:=⟨jO,j8⟩
@[simp] theorem vW(x:cO):(bM x).length=1:=rfl
def br(x:cr):List V:=[(sV x.name),(iV x.op),(iV x.n)]
theorem iB(x:cr):cz (br x):=(.cons (aw.con _) (.cons (aw.con _) (.cons (aw.con _) .nil)))
theorem iU(x:cr):(br x).all dC=true:=rfl
instance:EI br:=⟨iB,iU⟩
@[simp] theorem tw(x:cr):(br x).length=3:=rfl
def bU(x:cN):List V:=[(V.ifc x.kid.t x.kid.d)]
theorem jN(x:cN):cz (bU x):=(.cons (aw.ifc _ _) .nil)
theorem j7(x:cN):(bU x).all dC=true:=rfl
instance:EI bU:=⟨jN,j7⟩
@[simp] theorem vV(x:cN):(bU x).length=1:=rfl
def bO(x:cQ):List V:=[(V.lst 1 (x.kids.map KV.enc))]
theorem jQ(x:cQ):cz (bO x):=(.cons (aw.lst _ _) .nil)
theorem ka(x:cQ):(bO x).all dC=true:=rfl
instance:EI bO:=⟨jQ,ka⟩
@[simp] theorem vY(x:cQ):(bO x).length=1:=rfl
def bN(x:cP):List V:=[(V.lst 1 (x.kids.map KV.enc))]
theorem jP(x:cP):cz (bN x):=(.cons (aw.lst _ _) .nil)
theorem j9(x:cP):(bN x).all dC=true:=rfl
instance:EI bN:=⟨jP,j9⟩
@[simp] theorem vX(x:cP):(bN x).length=1:=rfl
def bZ(x:cH):List V:=[]
theorem jm(x:cH):cz (bZ x):=.nil
theorem jG(x:cH):(bZ x).all dC=true:=rfl
instance:EI bZ:=⟨jm,jG⟩
@[simp] theorem uE(x:cH):(bZ x).length=0:=rfl
def bw(x:ae):List V:=[(V.lst 1 (x.is.map ap)),(V.lst 1 (x.begins.map ap)),(V.lst 1 (x.numbers.map au)),(bV x.asText),(bV x.asNo),(bV x.has),(iV x.weight)]
theorem jM(x:ae):cz (bw x):=(.cons (aw.lst _ _) (.cons (aw.lst _ _) (.cons (aw.lst _ _) (.cons (aw.con _) (.cons (aw.con _) (.cons (aw.con _) (.cons (aw.con _) .nil)))))))
theorem j6(x:ae):(bw x).all dC=true:=rfl
instance:EI bw:=⟨jM,j6⟩
@[simp] theorem vU(x:ae):(bw x).length=7:=rfl
def cw(x:bH):List V:=[(bV x.name),(bV x.texts),(bV x.number),(iV x.kids)]
theorem lB(x:bH):cz (cw x):=(.cons (aw.con _) (.cons (aw.con _) (.cons (aw.con _) (.cons (aw.con _) .nil))))
theorem mS(x:bH):(cw x).all dC=true:=rfl
instance:EI cw:=⟨lB,mS⟩
@[simp] theorem zk(x:bH):(cw x).length=4:=rfl
def bB(x:ae):List V:=[(V.dsl 9 1 (x.is.map ap)),(V.dsl 9 1 (x.begins.map ap)),(V.dsl 3 1 (x.numbers.map au)),(bV x.asText),(bV x.asNo),(bV x.has),(iV x.weight)]
theorem dF:NF bB bw:=fun x=>(.cons (vj _ _ aL _) (.cons (vj _ _ aL _) (.cons (vj _ _ bk _) (.cons (qG _) (.cons (qG _) (.cons (qG _) (.cons (qG _) .nil)))))))
@[simp] theorem uG(x:ae):(bB x).length=7:=rfl
instance:EK bB:=⟨fun x c hc=>by
 obtain⟨j,hj⟩:=bb9 hc;have hl:=(bb8.1 hj).1;rw[(dF x).1] at hl;exact((dF x).2 j c _ hj (ax8 hl)).2⟩
def cB(p:B8×(Option ae)):Value×V:=(str p.1,(vH bw p.2))
abbrev jq(v:(Option ae)):V:=(vH bw v)
theorem sH(xs:List (B8×(Option ae)))(k:B8):iS (str k) (xs.map cB) ((aH xs k).map jq):=ly (kv:=fun k=>str k) (ev:=jq) ei xs k
instance:EM cB:=⟨fun _=>(FG _)⟩
theorem sI{xs:List (B8×(Option ae))}:∀p,p∈xs.map cB->m8 p.1:=by
 intro p hp;obtain⟨x,_,rfl⟩:=bc9.1 hp;exact⟨_,Y⟩
def aX(p:B8×(Option ae)):Value×V:=(str p.1,(qo 161 bB p.2))
theorem nc(p:B8×(Option ae)):(aX p).1=(cB p).1/\tV (aX p).2 (cB p).2/\dE (aX p).2:=⟨rfl,Dy 161 dF p.2,uJ 161 p.2⟩
instance:Mq aX:=⟨fun p=>(nc p).2.2⟩
theorem lL{xs:List (B8×(Option ae))}:∀p,p∈xs.map aX->m8 p.1:=by
 intro p hp;obtain⟨x,_,rfl⟩:=bc9.1 hp;exact⟨_,Y⟩
def bb(p:aa×Bool):Value×V:=(.agg (oE p.1).toArray,(bV p.2))
abbrev fK(v:Bool):V:=(bV v)
theorem tO(xs:List (aa×Bool))(k:aa)(v:Bool):g8 (.agg (oE k).toArray) (fK v) (xs.map bb) ((bI xs k v).map bb):=rH (kv:=fun k=>.agg (oE k).toArray) (ev:=fK) uO xs k v
theorem tP(xs:List (aa×Bool))(k:aa):iS (.agg (oE k).toArray) (xs.map bb) ((aH xs k).map fK):=ly (kv:=fun k=>.agg (oE k).toArray) (ev:=fK) uO xs k
theorem bS{xs:List (aa×Bool)}:∀p,p∈xs.map bb->aw p.2:=by
 intro p hp;obtain⟨x,_,rfl⟩:=bc9.1 hp;exact(aw.con _)
instance:EM bb:=⟨fun _=>(aw.con _)⟩
theorem ng{xs:List (aa×Bool)}:∀p,p∈xs.map bb->(By) p.1:=by
 intro p hp;obtain⟨x,_,rfl⟩:=bc9.1 hp;exact⟨_,Y⟩
def cf(p:B8×(List aa)):Value×V:=(str p.1,(V.lst 4 (p.2.map ai)))
abbrev jp(v:(List aa)):V:=(V.lst 4 (v.map ai))
theorem sF(xs:List (B8×(List aa)))(k:B8):iS (str k) (xs.map cf) ((aH xs k).map jp):=ly (kv:=fun k=>str k) (ev:=jp) ei xs k
instance:EM cf:=⟨fun _=>(aw.lst _ _)⟩
theorem sG{xs:List (B8×(List aa))}:∀p,p∈xs.map cf->m8 p.1:=by
 intro p hp;obtain⟨x,_,rfl⟩:=bc9.1 hp;exact⟨_,Y⟩
def aP(p:B8×(List aa)):Value×V:=(str p.1,(V.dsl 98 4 (p.2.map ai)))
theorem nb(p:B8×(List aa)):(aP p).1=(cf p).1/\tV (aP p).2 (cf p).2/\dE (aP p).2:=⟨rfl,xu bD _,dE.dsl _ _ _⟩
instance:Mq aP:=⟨fun p=>(nb p).2.2⟩
theorem sE{xs:List (B8×(List aa))}:∀p,p∈xs.map aP->m8 p.1:=by
 intro p hp;obtain⟨x,_,rfl⟩:=bc9.1 hp;exact⟨_,Y⟩
theorem Jr:mR Tryz.prog 23 6=true:=by kernel_rfl
theorem Kk:zeroCells Tryz.prog 25=some [.int .i64 0,.string ⟨#[]⟩,.slice none 0 0,.int .i64 0,.int .i64 0,.slice none 0 0]:=by kernel_rfl
theorem Mt:zeroCells Tryz.prog 208=some [.bool false,.bool false,.bool false,.int .i64 0,.bool false,.bool false,.bool false,.int .i64 0,.bool false,.bool false,.bool false,.int .i64 0,.bool false,.bool false,.bool false,.int .i64 0,.bool false,.bool false,.bool false,.int .i64 0,.bool false,.bool false,.bool false,.int .i64 0,.bool false,.bool false,.bool false,.int .i64 0,.bool false,.bool false,.bool false,.int .i64 0,.bool false,.bool false,.bool false,.int .i64 0]:=by kernel_rfl
theorem Jq:zeroCells Tryz.prog 207=some [.bool false,.bool false,.bool false,.int .i64 0]:=by kernel_rfl
theorem Hv:mX Tryz.prog 208 9 4=true:=by kernel_rfl
theorem Ek:nr Tryz.prog 208 9 4 207=true:=by kernel_rfl
theorem tC9:qH Tryz.prog 9=true:=by kernel_rfl
theorem i5:cR Tryz.prog 22=true:=by kernel_rfl
theorem A6:jA Tryz.prog 9=true:=by kernel_rfl
theorem D4:mR Tryz.prog 22 1=true:=by kernel_rfl
theorem Kn:fd Tryz.prog 109 75 1 16=true:=by kernel_rfl
theorem Ot:zeroCells Tryz.prog 75=some [.nilIface]:=by kernel_rfl
theorem Kv:Program.concrete Tryz.prog 147=true:=by kernel_rfl
theorem Ku:Program.concrete Tryz.prog 148=true:=by kernel_rfl
theorem Kt:Program.concrete Tryz.prog 150=true:=by kernel_rfl
theorem Ks:Program.concrete Tryz.prog 152=true:=by kernel_rfl
theorem Kr:Program.concrete Tryz.prog 154=true:=by kernel_rfl
theorem Kq:Program.concrete Tryz.prog 156=true:=by kernel_rfl
theorem Kp:Program.concrete Tryz.prog 157=true:=by kernel_rfl
theorem Ko:Program.concrete Tryz.prog 159=true:=by kernel_rfl
theorem Ow:G8 Tryz.prog 75 1=true:=by kernel_rfl
theorem Ed:o9 Tryz.prog 147=true:=by kernel_rfl
theorem BF:cM Tryz.prog 89=true:=by kernel_rfl
theorem tS4:G8 Tryz.prog 4 1=true:=by kernel_rfl
theorem fF:fd Tryz.prog 22 9 1 16=true:=by kernel_rfl
theorem Ki:(Tryz.prog.info? 147).bind (·.zero)=some (.agg #[.string ⟨#[]⟩,.slice none 0 0]):=by kernel_rfl
theorem Ec:o9 Tryz.prog 148=true:=by kernel_rfl
theorem Kh:(Tryz.prog.info? 148).bind (·.zero)=some (.agg #[.string ⟨#[]⟩,.slice none 0 0]):=by kernel_rfl
theorem Eb:o9 Tryz.prog 150=true:=by kernel_rfl
theorem Kg:(Tryz.prog.info? 150).bind (·.zero)=some (.agg #[.string ⟨#[]⟩]):=by kernel_rfl
theorem Ea:o9 Tryz.prog 152=true:=by kernel_rfl
theorem gy:fd Tryz.prog 51 3 1 8=true:=by kernel_rfl
theorem A5:zeroCells Tryz.prog 3=some [.int .i64 0]:=by kernel_rfl
theorem vB:cR Tryz.prog 51=true:=by kernel_rfl
theorem Kf:(Tryz.prog.info? 152).bind (·.zero)=some (.agg #[.string ⟨#[]⟩,.int .i64 0,.int .i64 0]):=by kernel_rfl
theorem D9:o9 Tryz.prog 154=true:=by kernel_rfl
theorem Ke:(Tryz.prog.info? 154).bind (·.zero)=some (.agg #[.nilIface]):=by kernel_rfl
theorem D8:o9 Tryz.prog 156=true:=by kernel_rfl
theorem Kd:(Tryz.prog.info? 156).bind (·.zero)=some (.agg #[.slice none 0 0]):=by kernel_rfl
theorem D7:o9 Tryz.prog 157=true:=by kernel_rfl
theorem Kc:(Tryz.prog.info? 157).bind (·.zero)=some (.agg #[.slice none 0 0]):=by kernel_rfl
theorem BG:cM Tryz.prog 33=true:=by kernel_rfl
theorem lj:ef Tryz.prog 77 9 103=true:=by kernel_rfl
theorem Ov:G8 Tryz.prog 94 2=true:=by kernel_rfl
theorem ff:ef Tryz.prog 91 9 98=true:=by kernel_rfl
theorem dA:iY Tryz.prog 9 m8:=r7 (by kernel_rfl)
theorem pN:(Tryz.prog.info? 98).bind (·.zero)=some (.agg #[.bool false,.bool false,.string ⟨#[]⟩,.int .i64 0]):=by kernel_rfl
theorem Hu:zeroCells Tryz.prog 98=some [.bool false,.bool false,.string ⟨#[]⟩,.int .i64 0]:=by kernel_rfl
theorem Ox:ze Tryz.prog 98 4=true:=by kernel_rfl
theorem tC:ze Tryz.prog 94 2=true:=by kernel_rfl
theorem Kw:qH Tryz.prog 92=true:=by kernel_rfl
theorem A8:xy Tryz.prog 92=true:=by kernel_rfl
theorem vn:ef Tryz.prog 92 9 4=true:=by kernel_rfl
theorem Kb:(Tryz.prog.info? 4).bind (·.zero)=some (.bool false):=by kernel_rfl
theorem wk:cM Tryz.prog 281=true:=by kernel_rfl
theorem FV:cM Tryz.prog 237=true:=by kernel_rfl
theorem vA:∀(v:Value) (args:Array Value) (w:World),(callMethod (.iface 147 v) "provender/policy.holds" args).run Tryz.prog w=.ok (.enter 282 (#[v]++args)) w:=fun v args w=>by kernel_rfl
theorem vw:∀(v:Value) (args:Array Value) (w:World),(callMethod (.iface 148 v) "provender/policy.holds" args).run Tryz.prog w=.ok (.enter 283 (#[v]++args)) w:=fun v args w=>by kernel_rfl
theorem vv:∀(v:Value) (args:Array Value) (w:World),(callMethod (.iface 150 v) "provender/policy.holds" args).run Tryz.prog w=.ok (.enter 285 (#[v]++args)) w:=fun v args w=>by kernel_rfl
theorem vu:∀(v:Value) (args:Array Value) (w:World),(callMethod (.iface 152 v) "provender/policy.holds" args).run Tryz.prog w=.ok (.enter 286 (#[v]++args)) w:=fun v args w=>by kernel_rfl
theorem vt:∀(v:Value) (args:Array Value) (w:World),(callMethod (.iface 154 v) "provender/policy.holds" args).run Tryz.prog w=.ok (.enter 288 (#[v]++args)) w:=fun v args w=>by kernel_rfl
theorem vr:∀(v:Value) (args:Array Value) (w:World),(callMethod (.iface 156 v) "provender/policy.holds" args).run Tryz.prog w=.ok (.enter 289 (#[v]++args)) w:=fun v args w=>by kernel_rfl
theorem vq:∀(v:Value) (args:Array Value) (w:World),(callMethod (.iface 157 v) "provender/policy.holds" args).run Tryz.prog w=.ok (.enter 290 (#[v]++args)) w:=fun v args w=>by kernel_rfl
theorem vp:∀(v:Value) (args:Array Value) (w:World),(callMethod (.iface 159 v) "provender/policy.holds" args).run Tryz.prog w=.ok (.enter 291 (#[v]++args)) w:=fun v args w=>by kernel_rfl
theorem tZ4:zeroCells Tryz.prog 4=some [.bool false]:=by kernel_rfl
theorem JF:cM Tryz.prog 48=true:=by kernel_rfl
theorem JG:cM Tryz.prog 47=true:=by kernel_rfl
theorem Am:cM Tryz.prog 109=true:=by kernel_rfl
theorem D3:zeroCells Tryz.prog 9=some [.string ⟨#[]⟩]:=by kernel_rfl
theorem Kj:(Tryz.prog.info? 103).bind (·.zero)=some (.pointer none):=by kernel_rfl
theorem A7:ef Tryz.prog 167 98 4=true:=by kernel_rfl
theorem Ee:iY Tryz.prog 98 By:=Fy Na (by kernel_rfl) (fun v ⟨x,hx⟩=>⟨_,⟨x,rfl⟩,hx⟩)
theorem vo:ef Tryz.prog 163 9 169=true:=by kernel_rfl
theorem DX:(Tryz.prog.info? 169).bind (·.zero)=some (.slice none 0 0):=by kernel_rfl
theorem rC:fd Tryz.prog 169 98 4 32=true:=by kernel_rfl
theorem Ef:cR Tryz.prog 169=true:=by kernel_rfl
theorem Mw:mR Tryz.prog 51 1=true:=by kernel_rfl
theorem M1:cM Tryz.prog 59=true:=by kernel_rfl
theorem K7:cM Tryz.prog 186=true:=by kernel_rfl
theorem M5:cM Tryz.prog 29=true:=by kernel_rfl
theorem Ou:Tryz.prog.underlying 21=some (.int .i32):=by kernel_rfl
theorem K6:cM Tryz.prog 188=true:=by kernel_rfl
theorem MZ:cM Tryz.prog 90=true:=by kernel_rfl
theorem M3:cM Tryz.prog 35=true:=by kernel_rfl
theorem M2:cM Tryz.prog 49=true:=by kernel_rfl
theorem JH:cM Tryz.prog 36=true:=by kernel_rfl
theorem Ms:zeroCells Tryz.prog 214=some [.string ⟨#[]⟩,.string ⟨#[]⟩,.string ⟨#[]⟩,.string ⟨#[]⟩,.string ⟨#[]⟩,.string ⟨#[]⟩,.string ⟨#[]⟩,.string ⟨#[]⟩,.string ⟨#[]⟩,.string ⟨#[]⟩,.string ⟨#[]⟩,.string ⟨#[]⟩,.string ⟨#[]⟩,.string ⟨#[]⟩,.string ⟨#[]⟩,.string ⟨#[]⟩,.string ⟨#[]⟩,.string ⟨#[]⟩,.string ⟨#[]⟩,.string ⟨#[]⟩]:=by kernel_rfl
theorem A9:mX Tryz.prog 214 20 1=true:=by kernel_rfl
theorem FU:cM Tryz.prog 51=true:=by kernel_rfl
theorem Ei:fd Tryz.prog 23 25 6 88=true:=by kernel_rfl
theorem BE:cM Tryz.prog 97=true:=by kernel_rfl
theorem lg:zeroCells Tryz.prog 142=some [.bool false,.bool false,.string ⟨#[]⟩,.int .i64 0]:=by kernel_rfl
theorem D5:G8 Tryz.prog 142 4=true:=by kernel_rfl
theorem gI:fd Tryz.prog 138 142 4 32=true:=by kernel_rfl
theorem Kl:fd Tryz.prog 257 5 1 1=true:=by kernel_rfl
theorem tZ5:zeroCells Tryz.prog 5=some [.int .u8 0]:=by kernel_rfl
theorem Kx:qJ Tryz.prog 257=true:=by kernel_rfl
theorem Eg:cR Tryz.prog 138=true:=by kernel_rfl
theorem La:cM Tryz.prog 124=true:=by kernel_rfl
theorem Ej:fd Tryz.prog 136 138 1 24=true:=by kernel_rfl
theorem Mu:zeroCells Tryz.prog 138=some [.slice none 0 0]:=by kernel_rfl
theorem Eh:cR Tryz.prog 136=true:=by kernel_rfl
theorem Km:fd Tryz.prog 137 4 1 1=true:=by kernel_rfl
theorem M0:cM Tryz.prog 82=true:=by kernel_rfl
theorem K9:cM Tryz.prog 126=true:=by kernel_rfl
theorem K8:cM Tryz.prog 127=true:=by kernel_rfl
theorem JE:cM Tryz.prog 85=true:=by kernel_rfl
def tt:TT:=[(3,[.C,.S 1]),(4,[.C,.S 1,.Z 1 [.bool false],.B]),(5,[.U]),(9,[.C,.Str,.S 1,.Z 1 [.string ⟨#[]⟩]]),(11,[.Fn]),(15,[.Fn]),(16,[.Fn]),(17,[.Fn]),(21,[.I .i32]),(22,[.C,.Sn,.Sl 1,.S 1,.El 9 1 16]),(23,[.C,.Sn,.Sl 6,.El 25 6 88]),(25,[.S 6,.A 6,.F 5 5,.Z 6 [.int .i64 0,.string ⟨#[]⟩,.slice none 0 0,.int .i64 0,.int .i64 0,.slice none 0 0],.F 0 0,.F 1 1,.F 2 2,.F 3 3,.F 4 4,.Pl [(0,1),(1,1),(2,1),(3,1),(4,1),(5,1)]]),(26,[.C,.Sn,.Sl 2,.Fn]),(27,[.C,.Sn,.Sl 2,.Fn]),(29,[.S 4,.A 4,.F 0 0,.F 1 1,.F 2 2,.F 3 3]),(30,[.Fn]),(31,[.Fn]),(32,[.Fn]),(34,[.Fn]),(38,[.Fn]),(39,[.A 2,.Z 2 [.string ⟨#[]⟩,.string ⟨#[]⟩],.S 2,.F 0 0,.F 1 1,.Fn]),(40,[.Fn]),(41,[.A 2,.Z 2 [.string ⟨#[]⟩,.int .i64 0],.S 2,.F 0 0,.F 1 1]),(43,[.Fn]),(44,[.Fn]),(50,[.Fn]),(51,[.C,.S 1,.Sn,.Sl 1,.El 3 1 8,.Fn]),(52,[.Fn]),(53,[.Fn]),(72,[.Fn]),(74,[.Fn]),(75,[.C,.Z 1 [.nilIface]]),(77,[.S 1,.C]),(79,[.Fn]),(80,[.Z 1 [.pointer none],.S 1,.C,.Fn]),(81,[.Fn]),(82,[.C]),(83,[.Fn]),(84,[.Fn]),(86,[.Fn]),(87,[.Fn]),(88,[.Fn]),(91,[.C]),(92,[.C,.Fn]),(93,[.Fn]),(94,[.Z 2 [.map none,.map none],.Pl [(0,1),(1,1)],.S 2,.F 0 0,.A 2,.F 1 1,.Fn]),(95,[.Fn]),(96,[.Fn]),(98,[.Z 4 [.bool false,.bool false,.string ⟨#[]⟩,.int .i64 0],.S 4,.F 0 0,.F 2 2,.A 4,.F 1 1,.F 3 3,.Pl [(0,1),(1,1),(2,1),(3,1)],.Fn]),(105,[.Fn]),(106,[.Fn]),(109,[.El 75 1 16,.Sn,.Sl 1,.C]),(111,[.Fn]),(112,[.Fn]),(121,[.Fn]),(124,[.Fn]),(125,[.Fn]),(126,[.Fn]),(128,[.Fn]),(129,[.Fn]),(130,[.Fn]),(131,[.Fn]),(132,[.Fn]),(134,[.Fn]),(136,[.C,.S 1,.Sl 1]),(137,[.S 1,.C,.Sl 1]),(138,[.Fn,.El 142 4 32,.Sn,.S 1,.C,.Sl 4]),(140,[.Z 10 [.int .i64 0,.string ⟨#[]⟩,.slice none 0 0,.int .i64 0,.int .i64 0,.slice none 0 0,.slice none 0 0,.slice none 0 0,.slice none 0 0,.slice none 0 0],.Pl [(0,6),(6,1),(7,1),(8,1),(9,1)],.S 10,.F 1 6,.F 2 7,.F 3 8,.F 4 9,.F 0 0]),(142,[.Z 4 [.bool false,.bool false,.string ⟨#[]⟩,.int .i64 0],.Pl [(0,1),(1,1),(2,1),(3,1)],.S 4,.F 0 0,.F 2 2,.F 1 1,.F 3 3,.A 4]),(147,[.Z 2 [.string ⟨#[]⟩,.slice none 0 0],.Pl [(0,1),(1,1)],.S 2,.F 0 0,.F 1 1,.Fn]),(148,[.Z 2 [.string ⟨#[]⟩,.slice none 0 0],.Pl [(0,1),(1,1)],.S 2,.F 0 0,.F 1 1,.Fn]),(150,[.Z 1 [.string ⟨#[]⟩],.Pl [(0,1)],.S 1,.F 0 0]),(152,[.Z 3 [.string ⟨#[]⟩,.int .i64 0,.int .i64 0],.Pl [(0,1),(1,1),(2,1)],.S 3,.F 0 0,.F 2 2,.F 1 1]),(154,[.Z 1 [.nilIface],.Pl [(0,1)],.S 1,.F 0 0]),(156,[.Z 1 [.slice none 0 0],.Pl [(0,1)],.S 1,.F 0 0]),(157,[.Z 1 [.slice none 0 0],.Pl [(0,1)],.S 1,.F 0 0]),(159,[.Z 0 [],.Pl [],.S 0]),(161,[.Z 7 [.slice none 0 0,.slice none 0 0,.slice none 0 0,.bool false,.bool false,.bool false,.int .i64 0],.Pl [(0,1),(1,1),(2,1),(3,1),(4,1),(5,1),(6,1)],.S 7,.F 0 0,.F 6 6,.F 3 3,.F 1 1,.F 5 5,.F 2 2,.F 4 4]),(163,[.C]),(165,[.Z 5 [.slice none 0 0,.map none,.map none,.map none,.nilFunc],.Pl [(0,1),(1,1),(2,2),(4,1)],.S 5,.F 2 2,.F 0 0,.F 1 1,.F 3 4]),(167,[.Z 1 [.map none],.S 1,.C]),(169,[.El 98 4 32,.Sn,.Sl 4]),(183,[.Fn]),(184,[.Fn]),(185,[.Fn]),(187,[.Fn]),(189,[.Fn]),(190,[.Fn]),(207,[.Z 4 [.bool false,.bool false,.bool false,.int .i64 0],.Pl [(0,1),(1,1),(2,1),(3,1)],.S 4,.F 0 0,.F 1 1,.F 2 2,.F 3 3]),(208,[.Z 36 [.bool false,.bool false,.bool false,.int .i64 0,.bool false,.bool false,.bool false,.int .i64 0,.bool false,.bool false,.bool false,.int .i64 0,.bool false,.bool false,.bool false,.int .i64 0,.bool false,.bool false,.bool false,.int .i64 0,.bool false,.bool false,.bool false,.int .i64 0,.bool false,.bool false,.bool false,.int .i64 0,.bool false,.bool false,.bool false,.int .i64 0,.bool false,.bool false,.bool false,.int .i64 0],.S 36,.A 36]),(214,[.Z 20 [.string ⟨#[]⟩,.string ⟨#[]⟩,.string ⟨#[]⟩,.string ⟨#[]⟩,.string ⟨#[]⟩,.string ⟨#[]⟩,.string ⟨#[]⟩,.string ⟨#[]⟩,.string ⟨#[]⟩,.string ⟨#[]⟩,.string ⟨#[]⟩,.string ⟨#[]⟩,.string ⟨#[]⟩,.string ⟨#[]⟩,.string ⟨#[]⟩,.string ⟨#[]⟩,.string ⟨#[]⟩,.string ⟨#[]⟩,.string ⟨#[]⟩,.string ⟨#[]⟩],.S 20,.Arr 20 1]),(221,[.Fn]),(222,[.Fn]),(223,[.Fn]),(238,[.Fn]),(247,[.Fn]),(284,[.Fn]),(287,[.Fn])]
theorem ok:cK Tryz.prog tt:=Mr (by kernel_rfl) (by kernel_rfl) trivial
instance {N:Nat} {w:World} {m:bA} {o:Nat->Prop} {p:Nat} {l:Nat->Option (Option (Nat×nZ))} {g:Gl} {h:go g m} {q:Option Nat}:TC ⟨Tryz.prog,N,w,m,o,p,l,g,h,q⟩ tt:=⟨ok⟩
end Go.Proofs.YtelmfadihfcgnaaGreatDoor
