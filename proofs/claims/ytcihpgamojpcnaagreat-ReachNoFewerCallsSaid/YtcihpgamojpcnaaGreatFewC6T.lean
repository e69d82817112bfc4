/- Part of the proof: C6T. -/
import Derived.Test.YtcihpgamojpcnaaGreatFewZA
import Derived.Test.YtcihpgamojpcnaaGreatFewWA
import Derived.Test.YtcihpgamojpcnaaGreatFewDN
import Derived.Test.YtcihpgamojpcnaaGreatFewDT
import Derived.Test.YtcihpgamojpcnaaGreatFewDX6
import Derived.Test.YtcihpgamojpcnaaGreatProg
import Derived.KernelRfl
namespace Go.Proofs.YtcihpgamojpcnaaGreat
open Go Go.Pv
set_option linter.unusedVariables false
set_option maxRecDepth 100000
theorem mixed:Tryz.prog.follows .mixedOrders=true:=by kernel_rfl
structure TIface where
 Name:(List UInt8)
 Methods:(List (List UInt8))
 deriving DecidableEq
structure TMethod where
 Name:(List UInt8)
 Func:(List UInt8)
 deriving DecidableEq
structure TType where
 Name:(List UInt8)
 Methods:(List TMethod)
 deriving DecidableEq
structure TCall where
 Kind:Int
 Target:(List UInt8)
 Method:(List UInt8)
 Feature:(List UInt8)
 deriving DecidableEq
structure TFunc where
 Name:(List UInt8)
 Component:(List UInt8)
 Calls:(List TCall)
 Makes:(List (List UInt8))
 deriving DecidableEq
structure TGraph where
 Ifaces:(List TIface)
 Types:(List TType)
 Funcs:(List TFunc)
 Entries:(List (List UInt8))
 deriving DecidableEq
structure TSite where
 Func:(List UInt8)
 Call:Int
 deriving DecidableEq
structure Treach_checker where
 loose:Bool
 ifaces:(List ((List UInt8)×TIface))
 types:(List ((List UInt8)×Bool))
 funcs:(List ((List UInt8)×Bool))
 deriving DecidableEq
structure Treach_world where
 g:TGraph
 funcs:(List ((List UInt8)×Int))
 types:(List ((List UInt8)×Int))
 fitting:(List ((List UInt8)×(List Int)))
 on:(List ((List UInt8)×Bool))
 made:Bool
 deriving DecidableEq
structure Treach_slot where
 iface:(List UInt8)
 method:(List UInt8)
 deriving DecidableEq
structure Treach_spread where
 w:(Option Treach_world)
 funcs:(List Bool)
 made:(List Bool)
 slots:(List (Treach_slot×Bool))
 order:(List Treach_slot)
 types:(List Int)
 queue:(List Int)
 deriving DecidableEq
structure Treach_arc where
 to:Int
 left:Int
 back:Int
 deriving DecidableEq
structure Tprovenderref6_names where
 ifaces:(List ((List UInt8)×(List ((List UInt8)×Bool))))
 types:(List ((List UInt8)×Bool))
 funcs:(List ((List UInt8)×Bool))
 deriving DecidableEq
structure Tprovenderref6_checker where
 g:TGraph
 n:Tprovenderref6_names
 loose:Bool
 deriving DecidableEq
structure Tprovenderref6_aim where
 typ:(List UInt8)
 to:(List UInt8)
 deriving DecidableEq
structure Tprovenderref6_link where
 site:TSite
 aims:(List Tprovenderref6_aim)
 deriving DecidableEq
def encI_i64(x:Int):List V:=[(iV x)]
theorem imms_encI_i64(x:Int):Imms (encI_i64 x):=(.cons (Imm.con _) .nil)
theorem one_encI_i64(x:Int):(encI_i64 x).all oneV=true:=rfl
instance:EI encI_i64:=⟨imms_encI_i64,one_encI_i64⟩
def encB(x:Bool):List V:=[(bV x)]
theorem imms_encB(x:Bool):Imms (encB x):=(.cons (Imm.con _) .nil)
theorem one_encB(x:Bool):(encB x).all oneV=true:=rfl
instance:EI encB:=⟨imms_encB,one_encB⟩
def encS(x:(List UInt8)):List V:=[(sV x)]
theorem imms_encS(x:(List UInt8)):Imms (encS x):=(.cons (Imm.con _) .nil)
theorem one_encS(x:(List UInt8)):(encS x).all oneV=true:=rfl
instance:EI encS:=⟨imms_encS,one_encS⟩
def encTIface(x:TIface):List V:=[(sV x.Name),(V.lst 1 (x.Methods.map encS))]
theorem imms_encTIface(x:TIface):Imms (encTIface x):=(.cons (Imm.con _) (.cons (Imm.lst _ _) .nil))
theorem one_encTIface(x:TIface):(encTIface x).all oneV=true:=rfl
instance:EI encTIface:=⟨imms_encTIface,one_encTIface⟩
@[simp] theorem len_encTIface(x:TIface):(encTIface x).length=2:=rfl
def encTMethod(x:TMethod):List V:=[(sV x.Name),(sV x.Func)]
theorem imms_encTMethod(x:TMethod):Imms (encTMethod x):=(.cons (Imm.con _) (.cons (Imm.con _) .nil))
theorem one_encTMethod(x:TMethod):(encTMethod x).all oneV=true:=rfl
instance:EI encTMethod:=⟨imms_encTMethod,one_encTMethod⟩
@[simp] theorem len_encTMethod(x:TMethod):(encTMethod x).length=2:=rfl
def encTType(x:TType):List V:=[(sV x.Name),(V.lst 2 (x.Methods.map encTMethod))]
theorem imms_encTType(x:TType):Imms (encTType x):=(.cons (Imm.con _) (.cons (Imm.lst _ _) .nil))
theorem one_encTType(x:TType):(encTType x).all oneV=true:=rfl
instance:EI encTType:=⟨imms_encTType,one_encTType⟩
@[simp] theorem len_encTType(x:TType):(encTType x).length=2:=rfl
def encTCall(x:TCall):List V:=[(iV x.Kind),(sV x.Target),(sV x.Method),(sV x.Feature)]
theorem imms_encTCall(x:TCall):Imms (encTCall x):=(.cons (Imm.con _) (.cons (Imm.con _) (.cons (Imm.con _) (.cons (Imm.con _) .nil))))
theorem one_encTCall(x:TCall):(encTCall x).all oneV=true:=rfl
instance:EI encTCall:=⟨imms_encTCall,one_encTCall⟩
@[simp] theorem len_encTCall(x:TCall):(encTCall x).length=4:=rfl
def encTFunc(x:TFunc):List V:=[(sV x.Name),(sV x.Component),(V.lst 4 (x.Calls.map encTCall)),(V.lst 1 (x.Makes.map encS))]
theorem imms_encTFunc(x:TFunc):Imms (encTFunc x):=(.cons (Imm.con _) (.cons (Imm.con _) (.cons (Imm.lst _ _) (.cons (Imm.lst _ _) .nil))))
theorem one_encTFunc(x:TFunc):(encTFunc x).all oneV=true:=rfl
instance:EI encTFunc:=⟨imms_encTFunc,one_encTFunc⟩
@[simp] theorem len_encTFunc(x:TFunc):(encTFunc x).length=4:=rfl
def encTGraph(x:TGraph):List V:=[(V.lst 2 (x.Ifaces.map encTIface)),(V.lst 2 (x.Types.map encTType)),(V.lst 4 (x.Funcs.map encTFunc)),(V.lst 1 (x.Entries.map encS))]
theorem imms_encTGraph(x:TGraph):Imms (encTGraph x):=(.cons (Imm.lst _ _) (.cons (Imm.lst _ _) (.cons (Imm.lst _ _) (.cons (Imm.lst _ _) .nil))))
theorem one_encTGraph(x:TGraph):(encTGraph x).all oneV=true:=rfl
instance:EI encTGraph:=⟨imms_encTGraph,one_encTGraph⟩
@[simp] theorem len_encTGraph(x:TGraph):(encTGraph x).length=4:=rfl
def encTSite(x:TSite):List V:=[(sV x.Func),(iV x.Call)]
theorem imms_encTSite(x:TSite):Imms (encTSite x):=(.cons (Imm.con _) (.cons (Imm.con _) .nil))
theorem one_encTSite(x:TSite):(encTSite x).all oneV=true:=rfl
instance:EI encTSite:=⟨imms_encTSite,one_encTSite⟩
@[simp] theorem len_encTSite(x:TSite):(encTSite x).length=2:=rfl
theorem eqp9{d:Nat}:EqOk Tryz.prog (d+1) 9 1 false (fun l=>∃n,l=[.string n]):=eqOk_str (show Tryz.prog.underlying 9=some (.string) by kernel_rfl) (show tyC Tryz.prog 9=true by kernel_rfl)
def cv163(x:Treach_slot):List Value:=[str x.iface]++([str x.method]++[])
theorem inj_cv163(x y:Treach_slot)(h:cv163 x=cv163 y):x=y:=by
 obtain⟨h0,h⟩:=List.append_inj h rfl
 obtain⟨h1,h⟩:=List.append_inj h rfl
 obtain⟨a0,a1⟩:=x
 obtain⟨b0,b1⟩:=y
 obtain rfl:a0=b0:=inj_str _ _ (List.cons.inj h0).1
 obtain rfl:a1=b1:=inj_str _ _ (List.cons.inj h1).1
 rfl
def isAgg163(v:Value):Prop:=∃x:Treach_slot,v=.agg (cv163 x).toArray
theorem inj_agg163:∀a b:Treach_slot,(Value.agg (cv163 a).toArray)=.agg (cv163 b).toArray->a=b:=fun a b h=>inj_cv163 a b (by simpa using congrArg Array.toList (Value.agg.inj h))
theorem eqp163 {d:Nat}:EqOk Tryz.prog (d+2) 163 2 true (fun l=>∃x:Treach_slot,l=cv163 x):=(eqOk_struct (d:=d+1) (fs:=[(Field.mk "iface" 9 0 false "" "provender/reach" 0),(Field.mk "method" 9 1 false "" "provender/reach" 16)]) (by kernel_rfl) (by kernel_rfl) (by kernel_rfl) (by kernel_rfl) (eqF_cons eqp9 (by simp) rfl (by simp) (eqF_cons eqp9 (by simp) rfl (by simp) eqF_nil))).weaken (fun l ⟨x,hx⟩=>by subst hx;exact⟨_,_,rfl,⟨_,rfl⟩,⟨_,_,rfl,⟨_,rfl⟩,rfl⟩⟩)
theorem eqk163:EqOk Tryz.prog 10000 163 2 true (fun l=>∃x:Treach_slot,l=cv163 x):=eqp163 (d:=9998)
theorem eqp3{d:Nat}:EqOk Tryz.prog (d+1) 3 1 false (fun l=>∃n,l=[.int .i64 n]):=eqOk_int (show Tryz.prog.underlying 3=some (.int .i64) by kernel_rfl) (show tyC Tryz.prog 3=true by kernel_rfl)
def cv41(x:TSite):List Value:=[str x.Func]++([.int .i64 x.Call]++[])
theorem inj_cv41(x y:TSite)(h:cv41 x=cv41 y):x=y:=by
 obtain⟨h0,h⟩:=List.append_inj h rfl
 obtain⟨h1,h⟩:=List.append_inj h rfl
 obtain⟨a0,a1⟩:=x
 obtain⟨b0,b1⟩:=y
 obtain rfl:a0=b0:=inj_str _ _ (List.cons.inj h0).1
 obtain rfl:a1=b1:=inj_int _ _ (List.cons.inj h1).1
 rfl
def isAgg41(v:Value):Prop:=∃x:TSite,v=.agg (cv41 x).toArray
theorem inj_agg41:∀a b:TSite,(Value.agg (cv41 a).toArray)=.agg (cv41 b).toArray->a=b:=fun a b h=>inj_cv41 a b (by simpa using congrArg Array.toList (Value.agg.inj h))
theorem eqp41 {d:Nat}:EqOk Tryz.prog (d+2) 41 2 true (fun l=>∃x:TSite,l=cv41 x):=(eqOk_struct (d:=d+1) (fs:=[(Field.mk "Func" 9 0 false "" "" 0),(Field.mk "Call" 3 1 false "" "" 16)]) (by kernel_rfl) (by kernel_rfl) (by kernel_rfl) (by kernel_rfl) (eqF_cons eqp9 (by simp) rfl (by simp) (eqF_cons eqp3 (by simp) rfl (by simp) eqF_nil))).weaken (fun l ⟨x,hx⟩=>by subst hx;exact⟨_,_,rfl,⟨_,rfl⟩,⟨_,_,rfl,⟨_,rfl⟩,rfl⟩⟩)
theorem eqk41:EqOk Tryz.prog 10000 41 2 true (fun l=>∃x:TSite,l=cv41 x):=eqp41 (d:=9998)
def encM9_3(p:(List UInt8)×Int):Value×V:=(str p.1,(iV p.2))
abbrev encM9_3_val(v:Int):V:=(iV v)
theorem encM9_3_puts(xs:List ((List UInt8)×Int))(k:(List UInt8))(v:Int):Puts (str k) (encM9_3_val v) (xs.map encM9_3) ((mput xs k v).map encM9_3):=puts_map (kv:=fun k=>str k) (ev:=encM9_3_val) inj_str xs k v
theorem encM9_3_look(xs:List ((List UInt8)×Int))(k:(List UInt8)):Look (str k) (xs.map encM9_3) ((mget xs k).map encM9_3_val):=look_map (kv:=fun k=>str k) (ev:=encM9_3_val) inj_str xs k
theorem encM9_3_imm{xs:List ((List UInt8)×Int)}:∀p,p∈xs.map encM9_3->Imm p.2:=by
 intro p hp
 obtain⟨x,_,rfl⟩:=List.mem_map.1 hp
 exact(Imm.con _)
instance:EM encM9_3:=⟨fun _=>(Imm.con _)⟩
theorem encM9_3_good{xs:List ((List UInt8)×Int)}:∀p,p∈xs.map encM9_3->isStr p.1:=by
 intro p hp
 obtain⟨x,_,rfl⟩:=List.mem_map.1 hp
 exact⟨_,rfl⟩
def encM9_58(p:(List UInt8)×(List Int)):Value×V:=(str p.1,(V.lst 1 (p.2.map encI_i64)))
abbrev encM9_58_val(v:(List Int)):V:=(V.lst 1 (v.map encI_i64))
theorem encM9_58_look(xs:List ((List UInt8)×(List Int)))(k:(List UInt8)):Look (str k) (xs.map encM9_58) ((mget xs k).map encM9_58_val):=look_map (kv:=fun k=>str k) (ev:=encM9_58_val) inj_str xs k
instance:EM encM9_58:=⟨fun _=>(Imm.lst _ _)⟩
theorem encM9_58_good{xs:List ((List UInt8)×(List Int))}:∀p,p∈xs.map encM9_58->isStr p.1:=by
 intro p hp
 obtain⟨x,_,rfl⟩:=List.mem_map.1 hp
 exact⟨_,rfl⟩
def encM9_4(p:(List UInt8)×Bool):Value×V:=(str p.1,(bV p.2))
abbrev encM9_4_val(v:Bool):V:=(bV v)
theorem encM9_4_puts(xs:List ((List UInt8)×Bool))(k:(List UInt8))(v:Bool):Puts (str k) (encM9_4_val v) (xs.map encM9_4) ((mput xs k v).map encM9_4):=puts_map (kv:=fun k=>str k) (ev:=encM9_4_val) inj_str xs k v
theorem encM9_4_look(xs:List ((List UInt8)×Bool))(k:(List UInt8)):Look (str k) (xs.map encM9_4) ((mget xs k).map encM9_4_val):=look_map (kv:=fun k=>str k) (ev:=encM9_4_val) inj_str xs k
theorem encM9_4_imm{xs:List ((List UInt8)×Bool)}:∀p,p∈xs.map encM9_4->Imm p.2:=by
 intro p hp
 obtain⟨x,_,rfl⟩:=List.mem_map.1 hp
 exact(Imm.con _)
theorem encM9_4_im(p:(List UInt8)×Bool):Imm (encM9_4 p).2:=(Imm.con _)
instance:EM encM9_4:=⟨fun _=>(Imm.con _)⟩
theorem encM9_4_good{xs:List ((List UInt8)×Bool)}:∀p,p∈xs.map encM9_4->isStr p.1:=by
 intro p hp
 obtain⟨x,_,rfl⟩:=List.mem_map.1 hp
 exact⟨_,rfl⟩
def encTreach_world(x:Treach_world):List V:=[(V.lst 2 (x.g.Ifaces.map encTIface)),(V.lst 2 (x.g.Types.map encTType)),(V.lst 4 (x.g.Funcs.map encTFunc)),(V.lst 1 (x.g.Entries.map encS)),(V.imap (x.funcs.map encM9_3)),(V.imap (x.types.map encM9_3)),(V.imap (x.fitting.map encM9_58)),(V.imap (x.on.map encM9_4)),(bV x.made)]
theorem imms_encTreach_world(x:Treach_world):Imms (encTreach_world x):=(.cons (Imm.lst _ _) (.cons (Imm.lst _ _) (.cons (Imm.lst _ _) (.cons (Imm.lst _ _) (.cons (Imm.imap _) (.cons (Imm.imap _) (.cons (Imm.imap _) (.cons (Imm.imap _) (.cons (Imm.con _) .nil)))))))))
theorem one_encTreach_world(x:Treach_world):(encTreach_world x).all oneV=true:=rfl
instance:EI encTreach_world:=⟨imms_encTreach_world,one_encTreach_world⟩
@[simp] theorem len_encTreach_world(x:Treach_world):(encTreach_world x).length=9:=rfl
def encTreach_slot(x:Treach_slot):List V:=[(sV x.iface),(sV x.method)]
theorem imms_encTreach_slot(x:Treach_slot):Imms (encTreach_slot x):=(.cons (Imm.con _) (.cons (Imm.con _) .nil))
theorem one_encTreach_slot(x:Treach_slot):(encTreach_slot x).all oneV=true:=rfl
instance:EI encTreach_slot:=⟨imms_encTreach_slot,one_encTreach_slot⟩
@[simp] theorem len_encTreach_slot(x:Treach_slot):(encTreach_slot x).length=2:=rfl
def encM163_4(p:Treach_slot×Bool):Value×V:=(.agg (cv163 p.1).toArray,(bV p.2))
abbrev encM163_4_val(v:Bool):V:=(bV v)
theorem encM163_4_puts(xs:List (Treach_slot×Bool))(k:Treach_slot)(v:Bool):Puts (.agg (cv163 k).toArray) (encM163_4_val v) (xs.map encM163_4) ((mput xs k v).map encM163_4):=puts_map (kv:=fun k=>.agg (cv163 k).toArray) (ev:=encM163_4_val) inj_agg163 xs k v
theorem encM163_4_look(xs:List (Treach_slot×Bool))(k:Treach_slot):Look (.agg (cv163 k).toArray) (xs.map encM163_4) ((mget xs k).map encM163_4_val):=look_map (kv:=fun k=>.agg (cv163 k).toArray) (ev:=encM163_4_val) inj_agg163 xs k
theorem encM163_4_imm{xs:List (Treach_slot×Bool)}:∀p,p∈xs.map encM163_4->Imm p.2:=by
 intro p hp
 obtain⟨x,_,rfl⟩:=List.mem_map.1 hp
 exact(Imm.con _)
instance:EM encM163_4:=⟨fun _=>(Imm.con _)⟩
theorem encM163_4_good{xs:List (Treach_slot×Bool)}:∀p,p∈xs.map encM163_4->(isAgg163) p.1:=by
 intro p hp
 obtain⟨x,_,rfl⟩:=List.mem_map.1 hp
 exact⟨_,rfl⟩
def encTreach_spread(x:Treach_spread):List V:=[(optr encTreach_world x.w),(V.lst 1 (x.funcs.map encB)),(V.lst 1 (x.made.map encB)),(V.imap (x.slots.map encM163_4)),(V.lst 2 (x.order.map encTreach_slot)),(V.lst 1 (x.types.map encI_i64)),(V.lst 1 (x.queue.map encI_i64))]
theorem imms_encTreach_spread(x:Treach_spread):Imms (encTreach_spread x):=(.cons (imm_optr _) (.cons (Imm.lst _ _) (.cons (Imm.lst _ _) (.cons (Imm.imap _) (.cons (Imm.lst _ _) (.cons (Imm.lst _ _) (.cons (Imm.lst _ _) .nil)))))))
theorem one_encTreach_spread(x:Treach_spread):(encTreach_spread x).all oneV=true:=by unfold encTreach_spread;simp only[List.all_cons,List.all_nil,one_optr,Bool.true_and];rfl
instance:EI encTreach_spread:=⟨imms_encTreach_spread,one_encTreach_spread⟩
@[simp] theorem len_encTreach_spread(x:Treach_spread):(encTreach_spread x).length=7:=rfl
def encM41_4(p:TSite×Bool):Value×V:=(.agg (cv41 p.1).toArray,(bV p.2))
abbrev encM41_4_val(v:Bool):V:=(bV v)
theorem encM41_4_puts(xs:List (TSite×Bool))(k:TSite)(v:Bool):Puts (.agg (cv41 k).toArray) (encM41_4_val v) (xs.map encM41_4) ((mput xs k v).map encM41_4):=puts_map (kv:=fun k=>.agg (cv41 k).toArray) (ev:=encM41_4_val) inj_agg41 xs k v
theorem encM41_4_look(xs:List (TSite×Bool))(k:TSite):Look (.agg (cv41 k).toArray) (xs.map encM41_4) ((mget xs k).map encM41_4_val):=look_map (kv:=fun k=>.agg (cv41 k).toArray) (ev:=encM41_4_val) inj_agg41 xs k
theorem encM41_4_imm{xs:List (TSite×Bool)}:∀p,p∈xs.map encM41_4->Imm p.2:=by
 intro p hp
 obtain⟨x,_,rfl⟩:=List.mem_map.1 hp
 exact(Imm.con _)
instance:EM encM41_4:=⟨fun _=>(Imm.con _)⟩
theorem encM41_4_good{xs:List (TSite×Bool)}:∀p,p∈xs.map encM41_4->(isAgg41) p.1:=by
 intro p hp
 obtain⟨x,_,rfl⟩:=List.mem_map.1 hp
 exact⟨_,rfl⟩
def encTreach_arc(x:Treach_arc):List V:=[(iV x.to),(iV x.left),(iV x.back)]
theorem imms_encTreach_arc(x:Treach_arc):Imms (encTreach_arc x):=(.cons (Imm.con _) (.cons (Imm.con _) (.cons (Imm.con _) .nil)))
theorem one_encTreach_arc(x:Treach_arc):(encTreach_arc x).all oneV=true:=rfl
instance:EI encTreach_arc:=⟨imms_encTreach_arc,one_encTreach_arc⟩
@[simp] theorem len_encTreach_arc(x:Treach_arc):(encTreach_arc x).length=3:=rfl
def encM9_80(p:(List UInt8)×TIface):Value×V:=(str p.1,(V.agg [(sV p.2.Name),(V.lst 1 (p.2.Methods.map encS))]))
abbrev encM9_80_val(v:TIface):V:=(V.agg [(sV v.Name),(V.lst 1 (v.Methods.map encS))])
theorem encM9_80_puts(xs:List ((List UInt8)×TIface))(k:(List UInt8))(v:TIface):Puts (str k) (encM9_80_val v) (xs.map encM9_80) ((mput xs k v).map encM9_80):=puts_map (kv:=fun k=>str k) (ev:=encM9_80_val) inj_str xs k v
theorem encM9_80_look(xs:List ((List UInt8)×TIface))(k:(List UInt8)):Look (str k) (xs.map encM9_80) ((mget xs k).map encM9_80_val):=look_map (kv:=fun k=>str k) (ev:=encM9_80_val) inj_str xs k
theorem encM9_80_imm{xs:List ((List UInt8)×TIface)}:∀p,p∈xs.map encM9_80->Imm p.2:=by
 intro p hp
 obtain⟨x,_,rfl⟩:=List.mem_map.1 hp
 exact(Imm.agg (.cons (Imm.con _) (.cons (Imm.lst _ _) .nil)))
instance:EM encM9_80:=⟨fun _=>(Imm.agg (.cons (Imm.con _) (.cons (Imm.lst _ _) .nil)))⟩
theorem encM9_80_good{xs:List ((List UInt8)×TIface)}:∀p,p∈xs.map encM9_80->isStr p.1:=by
 intro p hp
 obtain⟨x,_,rfl⟩:=List.mem_map.1 hp
 exact⟨_,rfl⟩
def encTreach_checker(x:Treach_checker):List V:=[(bV x.loose),(V.imap (x.ifaces.map encM9_80)),(V.imap (x.types.map encM9_4)),(V.imap (x.funcs.map encM9_4))]
theorem imms_encTreach_checker(x:Treach_checker):Imms (encTreach_checker x):=(.cons (Imm.con _) (.cons (Imm.imap _) (.cons (Imm.imap _) (.cons (Imm.imap _) .nil))))
theorem one_encTreach_checker(x:Treach_checker):(encTreach_checker x).all oneV=true:=rfl
instance:EI encTreach_checker:=⟨imms_encTreach_checker,one_encTreach_checker⟩
@[simp] theorem len_encTreach_checker(x:Treach_checker):(encTreach_checker x).length=4:=rfl
def encM9_63(p:(List UInt8)×(List ((List UInt8)×Bool))):Value×V:=(str p.1,(V.imap (p.2.map encM9_4)))
abbrev encM9_63_val(v:(List ((List UInt8)×Bool))):V:=(V.imap (v.map encM9_4))
theorem encM9_63_look(xs:List ((List UInt8)×(List ((List UInt8)×Bool))))(k:(List UInt8)):Look (str k) (xs.map encM9_63) ((mget xs k).map encM9_63_val):=look_map (kv:=fun k=>str k) (ev:=encM9_63_val) inj_str xs k
instance:EM encM9_63:=⟨fun _=>(Imm.imap _)⟩
theorem encM9_63_good{xs:List ((List UInt8)×(List ((List UInt8)×Bool)))}:∀p,p∈xs.map encM9_63->isStr p.1:=by
 intro p hp
 obtain⟨x,_,rfl⟩:=List.mem_map.1 hp
 exact⟨_,rfl⟩
def encTprovenderref6_names(x:Tprovenderref6_names):List V:=[(V.imap (x.ifaces.map encM9_63)),(V.imap (x.types.map encM9_4)),(V.imap (x.funcs.map encM9_4))]
theorem imms_encTprovenderref6_names(x:Tprovenderref6_names):Imms (encTprovenderref6_names x):=(.cons (Imm.imap _) (.cons (Imm.imap _) (.cons (Imm.imap _) .nil)))
theorem one_encTprovenderref6_names(x:Tprovenderref6_names):(encTprovenderref6_names x).all oneV=true:=rfl
instance:EI encTprovenderref6_names:=⟨imms_encTprovenderref6_names,one_encTprovenderref6_names⟩
@[simp] theorem len_encTprovenderref6_names(x:Tprovenderref6_names):(encTprovenderref6_names x).length=3:=rfl
def encTprovenderref6_checker(x:Tprovenderref6_checker):List V:=[(V.lst 2 (x.g.Ifaces.map encTIface)),(V.lst 2 (x.g.Types.map encTType)),(V.lst 4 (x.g.Funcs.map encTFunc)),(V.lst 1 (x.g.Entries.map encS)),(V.imap (x.n.ifaces.map encM9_63)),(V.imap (x.n.types.map encM9_4)),(V.imap (x.n.funcs.map encM9_4)),(bV x.loose)]
theorem imms_encTprovenderref6_checker(x:Tprovenderref6_checker):Imms (encTprovenderref6_checker x):=(.cons (Imm.lst _ _) (.cons (Imm.lst _ _) (.cons (Imm.lst _ _) (.cons (Imm.lst _ _) (.cons (Imm.imap _) (.cons (Imm.imap _) (.cons (Imm.imap _) (.cons (Imm.con _) .nil))))))))
theorem one_encTprovenderref6_checker(x:Tprovenderref6_checker):(encTprovenderref6_checker x).all oneV=true:=rfl
instance:EI encTprovenderref6_checker:=⟨imms_encTprovenderref6_checker,one_encTprovenderref6_checker⟩
@[simp] theorem len_encTprovenderref6_checker(x:Tprovenderref6_checker):(encTprovenderref6_checker x).length=8:=rfl
def encM9_248(p:(List UInt8)×(List Int)):Value×V:=(str p.1,(V.dsl 3 1 (p.2.map encI_i64)))
theorem encM9_248_und(p:(List UInt8)×(List Int)):(encM9_248 p).1=(encM9_58 p).1/\Und (encM9_248 p).2 (encM9_58 p).2/\Keep (encM9_248 p).2:=⟨rfl,und_rows imms_encI_i64 _,Keep.dsl _ _ _⟩
instance:EMK encM9_248:=⟨fun p=>(encM9_248_und p).2.2⟩
theorem encM9_248_good{xs:List ((List UInt8)×(List Int))}:∀p,p∈xs.map encM9_248->isStr p.1:=by
 intro p hp
 obtain⟨x,_,rfl⟩:=List.mem_map.1 hp
 exact⟨_,rfl⟩
def encM9_250(p:(List UInt8)×(List ((List UInt8)×Bool))):Value×V:=(str p.1,(V.dmp (p.2.map encM9_4)))
theorem encM9_250_und(p:(List UInt8)×(List ((List UInt8)×Bool))):(encM9_250 p).1=(encM9_63 p).1/\Und (encM9_250 p).2 (encM9_63 p).2/\Keep (encM9_250 p).2:=⟨rfl,und_ents encM9_4_im _,Keep.dmp _⟩
instance:EMK encM9_250:=⟨fun p=>(encM9_250_und p).2.2⟩
theorem encM9_250_good{xs:List ((List UInt8)×(List ((List UInt8)×Bool)))}:∀p,p∈xs.map encM9_250->isStr p.1:=by
 intro p hp
 obtain⟨x,_,rfl⟩:=List.mem_map.1 hp
 exact⟨_,rfl⟩
theorem tS27:tyS Tryz.prog 27 4=true:=by kernel_rfl
theorem tA27:tyA Tryz.prog 27 4=true:=by kernel_rfl
theorem tZ132:zeroCells Tryz.prog 132=some [.bool false,.map none,.map none,.map none]:=by kernel_rfl
theorem tPl132:tyPlaces Tryz.prog 132=some [(0,1),(1,1),(2,1),(3,1)]:=by kernel_rfl
theorem tS132:tyS Tryz.prog 132 4=true:=by kernel_rfl
theorem tF27_0:tyF Tryz.prog 27 0 0=true:=by kernel_rfl
theorem tC22:tyC Tryz.prog 22=true:=by kernel_rfl
theorem tIsSl22:tySlice Tryz.prog 22=true:=by kernel_rfl
theorem tSl22:tySl Tryz.prog 22 2=true:=by kernel_rfl
theorem tA80:tyA Tryz.prog 80 2=true:=by kernel_rfl
theorem tZ80:zeroCells Tryz.prog 80=some [.string ⟨#[]⟩,.slice none 0 0]:=by kernel_rfl
theorem tS80:tyS Tryz.prog 80 2=true:=by kernel_rfl
theorem tF132_1:tyF Tryz.prog 132 1 1=true:=by kernel_rfl
theorem tC130:tyC Tryz.prog 130=true:=by kernel_rfl
theorem tF80_0:tyF Tryz.prog 80 0 0=true:=by kernel_rfl
theorem tC9:tyC Tryz.prog 9=true:=by kernel_rfl
theorem tMap130:tyMap Tryz.prog 130 9 80=true:=by kernel_rfl
theorem tKey9:KeyT Tryz.prog 9 isStr:=keyT_str (by kernel_rfl)
theorem tF27_1:tyF Tryz.prog 27 1 1=true:=by kernel_rfl
theorem tC23:tyC Tryz.prog 23=true:=by kernel_rfl
theorem tIsSl23:tySlice Tryz.prog 23=true:=by kernel_rfl
theorem tSl23:tySl Tryz.prog 23 2=true:=by kernel_rfl
theorem tA86:tyA Tryz.prog 86 2=true:=by kernel_rfl
theorem tZ86:zeroCells Tryz.prog 86=some [.string ⟨#[]⟩,.slice none 0 0]:=by kernel_rfl
theorem tS86:tyS Tryz.prog 86 2=true:=by kernel_rfl
theorem tF132_2:tyF Tryz.prog 132 2 2=true:=by kernel_rfl
theorem tC63:tyC Tryz.prog 63=true:=by kernel_rfl
theorem tF86_0:tyF Tryz.prog 86 0 0=true:=by kernel_rfl
theorem tMap63:tyMap Tryz.prog 63 9 4=true:=by kernel_rfl
theorem tF27_2:tyF Tryz.prog 27 2 2=true:=by kernel_rfl
theorem tC24:tyC Tryz.prog 24=true:=by kernel_rfl
theorem tIsSl24:tySlice Tryz.prog 24=true:=by kernel_rfl
theorem tSl24:tySl Tryz.prog 24 4=true:=by kernel_rfl
theorem tA52:tyA Tryz.prog 52 4=true:=by kernel_rfl
theorem tZ52:zeroCells Tryz.prog 52=some [.string ⟨#[]⟩,.string ⟨#[]⟩,.slice none 0 0,.slice none 0 0]:=by kernel_rfl
theorem tS52:tyS Tryz.prog 52 4=true:=by kernel_rfl
theorem tF132_3:tyF Tryz.prog 132 3 3=true:=by kernel_rfl
theorem tF52_0:tyF Tryz.prog 52 0 0=true:=by kernel_rfl
theorem tA132:tyA Tryz.prog 132 4=true:=by kernel_rfl
theorem fOk52:fnOk Tryz.prog 52=true:=by kernel_rfl
theorem tStr9:tyStr Tryz.prog 9=true:=by kernel_rfl
theorem fOk108:fnOk Tryz.prog 108=true:=by kernel_rfl
theorem fOk87:fnOk Tryz.prog 87=true:=by kernel_rfl
theorem tF80_1:tyF Tryz.prog 80 1 1=true:=by kernel_rfl
theorem tC25:tyC Tryz.prog 25=true:=by kernel_rfl
theorem tIsSl25:tySlice Tryz.prog 25=true:=by kernel_rfl
theorem tSl25:tySl Tryz.prog 25 1=true:=by kernel_rfl
theorem fOk75:fnOk Tryz.prog 75=true:=by kernel_rfl
theorem tF86_1:tyF Tryz.prog 86 1 1=true:=by kernel_rfl
theorem tC84:tyC Tryz.prog 84=true:=by kernel_rfl
theorem tIsSl84:tySlice Tryz.prog 84=true:=by kernel_rfl
theorem tSl84:tySl Tryz.prog 84 2=true:=by kernel_rfl
theorem tA144:tyA Tryz.prog 144 2=true:=by kernel_rfl
theorem tZ144:zeroCells Tryz.prog 144=some [.string ⟨#[]⟩,.string ⟨#[]⟩]:=by kernel_rfl
theorem tS144:tyS Tryz.prog 144 2=true:=by kernel_rfl
theorem tF144_0:tyF Tryz.prog 144 0 0=true:=by kernel_rfl
theorem tF132_0:tyF Tryz.prog 132 0 0=true:=by kernel_rfl
theorem tC4:tyC Tryz.prog 4=true:=by kernel_rfl
theorem tF144_1:tyF Tryz.prog 144 1 1=true:=by kernel_rfl
theorem tZo4:(Tryz.prog.info? 4).bind (·.zero)=some (.bool false):=by kernel_rfl
theorem fOk76:fnOk Tryz.prog 76=true:=by kernel_rfl
theorem tF52_1:tyF Tryz.prog 52 1 1=true:=by kernel_rfl
theorem tF52_2:tyF Tryz.prog 52 2 2=true:=by kernel_rfl
theorem tC50:tyC Tryz.prog 50=true:=by kernel_rfl
theorem tIsSl50:tySlice Tryz.prog 50=true:=by kernel_rfl
theorem tSl50:tySl Tryz.prog 50 4=true:=by kernel_rfl
theorem tA54:tyA Tryz.prog 54 4=true:=by kernel_rfl
theorem tZ54:zeroCells Tryz.prog 54=some [.int .i64 0,.string ⟨#[]⟩,.string ⟨#[]⟩,.string ⟨#[]⟩]:=by kernel_rfl
theorem tS54:tyS Tryz.prog 54 4=true:=by kernel_rfl
theorem tF54_0:tyF Tryz.prog 54 0 0=true:=by kernel_rfl
theorem tC3:tyC Tryz.prog 3=true:=by kernel_rfl
theorem tF54_1:tyF Tryz.prog 54 1 1=true:=by kernel_rfl
theorem tF54_2:tyF Tryz.prog 54 2 2=true:=by kernel_rfl
theorem tZo80:(Tryz.prog.info? 80).bind (·.zero)=some (.agg #[.string ⟨#[]⟩,.slice none 0 0]):=by kernel_rfl
theorem fOk35:fnOk Tryz.prog 35=true:=by kernel_rfl
theorem fOk10:fnOk Tryz.prog 10=true:=by kernel_rfl
theorem tF54_3:tyF Tryz.prog 54 3 3=true:=by kernel_rfl
theorem fOk109:fnOk Tryz.prog 109=true:=by kernel_rfl
theorem tF52_3:tyF Tryz.prog 52 3 3=true:=by kernel_rfl
theorem fOk78:fnOk Tryz.prog 78=true:=by kernel_rfl
theorem fOk77:fnOk Tryz.prog 77=true:=by kernel_rfl
theorem tF27_3:tyF Tryz.prog 27 3 3=true:=by kernel_rfl
theorem fOk53:fnOk Tryz.prog 53=true:=by kernel_rfl
theorem fOk20:fnOk Tryz.prog 20=true:=by kernel_rfl
theorem fOk66:fnOk Tryz.prog 66=true:=by kernel_rfl
theorem tZ65:zeroCells Tryz.prog 65=some [.slice none 0 0,.slice none 0 0,.slice none 0 0,.slice none 0 0,.map none,.map none,.map none,.map none,.bool false]:=by kernel_rfl
theorem tPl65:tyPlaces Tryz.prog 65=some [(0,4),(4,1),(5,1),(6,1),(7,1),(8,1)]:=by kernel_rfl
theorem tS65:tyS Tryz.prog 65 9=true:=by kernel_rfl
theorem tF65_1:tyF Tryz.prog 65 1 4=true:=by kernel_rfl
theorem tC61:tyC Tryz.prog 61=true:=by kernel_rfl
theorem tMap61:tyMap Tryz.prog 61 9 3=true:=by kernel_rfl
theorem tF65_2:tyF Tryz.prog 65 2 5=true:=by kernel_rfl
theorem tI169:tyI Tryz.prog 169 .u64=true:=by kernel_rfl
theorem tUn3:tyU Tryz.prog 3=true:=by kernel_rfl
theorem tI3:tyI Tryz.prog 3 .i64=true:=by kernel_rfl
theorem tUn169:tyU Tryz.prog 169=true:=by kernel_rfl
theorem fOk79:fnOk Tryz.prog 79=true:=by kernel_rfl
theorem fOk56:fnOk Tryz.prog 56=true:=by kernel_rfl
theorem fOk96:fnOk Tryz.prog 96=true:=by kernel_rfl
theorem fOk95:fnOk Tryz.prog 95=true:=by kernel_rfl
theorem fOk72:fnOk Tryz.prog 72=true:=by kernel_rfl
theorem fOk54:fnOk Tryz.prog 54=true:=by kernel_rfl
theorem tF65_3:tyF Tryz.prog 65 3 6=true:=by kernel_rfl
theorem tC62:tyC Tryz.prog 62=true:=by kernel_rfl
theorem tMap62:tyMap Tryz.prog 62 9 58=true:=by kernel_rfl
theorem tZo58:(Tryz.prog.info? 58).bind (·.zero)=some (.slice none 0 0):=by kernel_rfl
theorem tEl58:tyEl Tryz.prog 58 3 1 8=true:=by kernel_rfl
theorem tZ3:zeroCells Tryz.prog 3=some [.int .i64 0]:=by kernel_rfl
theorem tIsSl58:tySlice Tryz.prog 58=true:=by kernel_rfl
theorem tF65_4:tyF Tryz.prog 65 4 7=true:=by kernel_rfl
theorem fOk21:fnOk Tryz.prog 21=true:=by kernel_rfl
theorem fOk34:fnOk Tryz.prog 34=true:=by kernel_rfl
theorem tZo3:(Tryz.prog.info? 3).bind (·.zero)=some (.int .i64 0):=by kernel_rfl
theorem fOk15:fnOk Tryz.prog 15=true:=by kernel_rfl
theorem tF65_0:tyF Tryz.prog 65 0 0=true:=by kernel_rfl
theorem tZ60:zeroCells Tryz.prog 60=some [.pointer none,.slice none 0 0,.slice none 0 0,.map none,.slice none 0 0,.slice none 0 0,.slice none 0 0]:=by kernel_rfl
theorem tPl60:tyPlaces Tryz.prog 60=some [(0,1),(1,1),(2,1),(3,1),(4,1),(5,1),(6,1)]:=by kernel_rfl
theorem tS60:tyS Tryz.prog 60 7=true:=by kernel_rfl
theorem tEl55:tyEl Tryz.prog 55 4 1 1=true:=by kernel_rfl
theorem tZ4:zeroCells Tryz.prog 4=some [.bool false]:=by kernel_rfl
theorem tF60_1:tyF Tryz.prog 60 1 1=true:=by kernel_rfl
theorem tC55:tyC Tryz.prog 55=true:=by kernel_rfl
theorem tSl55:tySl Tryz.prog 55 1=true:=by kernel_rfl
theorem tS4:tyS Tryz.prog 4 1=true:=by kernel_rfl
theorem tF60_6:tyF Tryz.prog 60 6 6=true:=by kernel_rfl
theorem tC58:tyC Tryz.prog 58=true:=by kernel_rfl
theorem tS58:tyS Tryz.prog 58 1=true:=by kernel_rfl
theorem fOk44:fnOk Tryz.prog 44=true:=by kernel_rfl
theorem tSl58:tySl Tryz.prog 58 1=true:=by kernel_rfl
theorem tF60_2:tyF Tryz.prog 60 2 2=true:=by kernel_rfl
theorem tF60_0:tyF Tryz.prog 60 0 0=true:=by kernel_rfl
theorem tC45:tyC Tryz.prog 45=true:=by kernel_rfl
theorem tF65_5:tyF Tryz.prog 65 5 8=true:=by kernel_rfl
theorem tF60_4:tyF Tryz.prog 60 4 4=true:=by kernel_rfl
theorem tC57:tyC Tryz.prog 57=true:=by kernel_rfl
theorem tIsSl57:tySlice Tryz.prog 57=true:=by kernel_rfl
theorem tSl57:tySl Tryz.prog 57 2=true:=by kernel_rfl
theorem tA163:tyA Tryz.prog 163 2=true:=by kernel_rfl
theorem tZ163:zeroCells Tryz.prog 163=some [.string ⟨#[]⟩,.string ⟨#[]⟩]:=by kernel_rfl
theorem tS163:tyS Tryz.prog 163 2=true:=by kernel_rfl
theorem tF163_0:tyF Tryz.prog 163 0 0=true:=by kernel_rfl
theorem fOk94:fnOk Tryz.prog 94=true:=by kernel_rfl
theorem fOk71:fnOk Tryz.prog 71=true:=by kernel_rfl
theorem tF163_1:tyF Tryz.prog 163 1 1=true:=by kernel_rfl
theorem tPl54:tyPlaces Tryz.prog 54=some [(0,1),(1,1),(2,1),(3,1)]:=by kernel_rfl
theorem fOk47:fnOk Tryz.prog 47=true:=by kernel_rfl
theorem fOk45:fnOk Tryz.prog 45=true:=by kernel_rfl
theorem tPl163:tyPlaces Tryz.prog 163=some [(0,1),(1,1)]:=by kernel_rfl
theorem tF60_3:tyF Tryz.prog 60 3 3=true:=by kernel_rfl
theorem tC56:tyC Tryz.prog 56=true:=by kernel_rfl
theorem tMap56:tyMap Tryz.prog 56 163 4=true:=by kernel_rfl
theorem tKey163:KeyT Tryz.prog 163 isAgg163:=keyT_agg eqk163 (by kernel_rfl) (fun v ⟨x,hx⟩=>⟨_,⟨x,rfl⟩,hx⟩)
theorem tS57:tyS Tryz.prog 57 1=true:=by kernel_rfl
theorem tEl57:tyEl Tryz.prog 57 163 2 32=true:=by kernel_rfl
theorem fOk46:fnOk Tryz.prog 46=true:=by kernel_rfl
theorem fOk16:fnOk Tryz.prog 16=true:=by kernel_rfl
theorem tZ41:zeroCells Tryz.prog 41=some [.string ⟨#[]⟩,.int .i64 0]:=by kernel_rfl
theorem tPl41:tyPlaces Tryz.prog 41=some [(0,1),(1,1)]:=by kernel_rfl
theorem tEl28:tyEl Tryz.prog 28 41 2 24=true:=by kernel_rfl
theorem tIsSl28:tySlice Tryz.prog 28=true:=by kernel_rfl
theorem tEl67:tyEl Tryz.prog 67 123 1 24=true:=by kernel_rfl
theorem tZ123:zeroCells Tryz.prog 123=some [.slice none 0 0]:=by kernel_rfl
theorem tZ69:zeroCells Tryz.prog 69=some [.slice none 0 0,.slice none 0 0,.slice none 0 0]:=by kernel_rfl
theorem tPl69:tyPlaces Tryz.prog 69=some [(0,1),(1,1),(2,1)]:=by kernel_rfl
theorem tS69:tyS Tryz.prog 69 3=true:=by kernel_rfl
theorem tSl28:tySl Tryz.prog 28 2=true:=by kernel_rfl
theorem tA41:tyA Tryz.prog 41 2=true:=by kernel_rfl
theorem tS41:tyS Tryz.prog 41 2=true:=by kernel_rfl
theorem tF41_0:tyF Tryz.prog 41 0 0=true:=by kernel_rfl
theorem tF69_0:tyF Tryz.prog 69 0 0=true:=by kernel_rfl
theorem tC67:tyC Tryz.prog 67=true:=by kernel_rfl
theorem tSl67:tySl Tryz.prog 67 1=true:=by kernel_rfl
theorem tZ125:zeroCells Tryz.prog 125=some [.int .i64 0,.int .i64 0,.int .i64 0]:=by kernel_rfl
theorem tPl125:tyPlaces Tryz.prog 125=some [(0,1),(1,1),(2,1)]:=by kernel_rfl
theorem tC123:tyC Tryz.prog 123=true:=by kernel_rfl
theorem tIsSl123:tySlice Tryz.prog 123=true:=by kernel_rfl
theorem tEl123:tyEl Tryz.prog 123 125 3 24=true:=by kernel_rfl
theorem tS123:tyS Tryz.prog 123 1=true:=by kernel_rfl
theorem fOk17:fnOk Tryz.prog 17=true:=by kernel_rfl
theorem tF41_1:tyF Tryz.prog 41 1 1=true:=by kernel_rfl
theorem tIsSl55:tySlice Tryz.prog 55=true:=by kernel_rfl
theorem fOk48:fnOk Tryz.prog 48=true:=by kernel_rfl
theorem fOk49:fnOk Tryz.prog 49=true:=by kernel_rfl
theorem fOk18:fnOk Tryz.prog 18=true:=by kernel_rfl
theorem tIsSl67:tySlice Tryz.prog 67=true:=by kernel_rfl
theorem tF69_1:tyF Tryz.prog 69 1 1=true:=by kernel_rfl
theorem tS3:tyS Tryz.prog 3 1=true:=by kernel_rfl
theorem tSl123:tySl Tryz.prog 123 3=true:=by kernel_rfl
theorem tA125:tyA Tryz.prog 125 3=true:=by kernel_rfl
theorem tS125:tyS Tryz.prog 125 3=true:=by kernel_rfl
theorem tF125_1:tyF Tryz.prog 125 1 1=true:=by kernel_rfl
theorem tF125_0:tyF Tryz.prog 125 0 0=true:=by kernel_rfl
theorem fOk50:fnOk Tryz.prog 50=true:=by kernel_rfl
theorem tF69_2:tyF Tryz.prog 69 2 2=true:=by kernel_rfl
theorem fOk51:fnOk Tryz.prog 51=true:=by kernel_rfl
theorem tF125_2:tyF Tryz.prog 125 2 2=true:=by kernel_rfl
theorem fOk19:fnOk Tryz.prog 19=true:=by kernel_rfl
theorem fOk5:fnOk Tryz.prog 5=true:=by kernel_rfl
theorem tZ27:zeroCells Tryz.prog 27=some [.slice none 0 0,.slice none 0 0,.slice none 0 0,.slice none 0 0]:=by kernel_rfl
theorem tPl27:tyPlaces Tryz.prog 27=some [(0,1),(1,1),(2,1),(3,1)]:=by kernel_rfl
theorem fOk80:fnOk Tryz.prog 80=true:=by kernel_rfl
theorem fOk57:fnOk Tryz.prog 57=true:=by kernel_rfl
theorem fOk55:fnOk Tryz.prog 55=true:=by kernel_rfl
theorem fOk22:fnOk Tryz.prog 22=true:=by kernel_rfl
theorem tMap75:tyMap Tryz.prog 75 41 4=true:=by kernel_rfl
theorem tKey41:KeyT Tryz.prog 41 isAgg41:=keyT_agg eqk41 (by kernel_rfl) (fun v ⟨x,hx⟩=>⟨_,⟨x,rfl⟩,hx⟩)
theorem tS81:tyS Tryz.prog 81 1=true:=by kernel_rfl
theorem tEl25:tyEl Tryz.prog 25 9 1 16=true:=by kernel_rfl
theorem fOk29:fnOk Tryz.prog 29=true:=by kernel_rfl
theorem tS25:tyS Tryz.prog 25 1=true:=by kernel_rfl
theorem fOk25:fnOk Tryz.prog 25=true:=by kernel_rfl
theorem tEl22:tyEl Tryz.prog 22 80 2 40=true:=by kernel_rfl
theorem tC81:tyC Tryz.prog 81=true:=by kernel_rfl
theorem fOk24:fnOk Tryz.prog 24=true:=by kernel_rfl
theorem fOk58:fnOk Tryz.prog 58=true:=by kernel_rfl
theorem fOk23:fnOk Tryz.prog 23=true:=by kernel_rfl
theorem tS87:tyS Tryz.prog 87 1=true:=by kernel_rfl
theorem tEl84:tyEl Tryz.prog 84 144 2 32=true:=by kernel_rfl
theorem fOk62:fnOk Tryz.prog 62=true:=by kernel_rfl
theorem tS84:tyS Tryz.prog 84 1=true:=by kernel_rfl
theorem fOk28:fnOk Tryz.prog 28=true:=by kernel_rfl
theorem tEl23:tyEl Tryz.prog 23 86 2 40=true:=by kernel_rfl
theorem tC87:tyC Tryz.prog 87=true:=by kernel_rfl
theorem fOk27:fnOk Tryz.prog 27=true:=by kernel_rfl
theorem fOk60:fnOk Tryz.prog 60=true:=by kernel_rfl
theorem fOk26:fnOk Tryz.prog 26=true:=by kernel_rfl
theorem tEl50:tyEl Tryz.prog 50 54 4 56=true:=by kernel_rfl
theorem tS50:tyS Tryz.prog 50 1=true:=by kernel_rfl
theorem tEl24:tyEl Tryz.prog 24 52 4 80=true:=by kernel_rfl
theorem tS24:tyS Tryz.prog 24 1=true:=by kernel_rfl
theorem fOk6:fnOk Tryz.prog 6=true:=by kernel_rfl
theorem tZ147:zeroCells Tryz.prog 147=some [.map none,.map none,.map none]:=by kernel_rfl
theorem tPl147:tyPlaces Tryz.prog 147=some [(0,1),(1,1),(2,1)]:=by kernel_rfl
theorem tS147:tyS Tryz.prog 147 3=true:=by kernel_rfl
theorem tF147_0:tyF Tryz.prog 147 0 0=true:=by kernel_rfl
theorem tC145:tyC Tryz.prog 145=true:=by kernel_rfl
theorem tMap145:tyMap Tryz.prog 145 9 63=true:=by kernel_rfl
theorem tF147_1:tyF Tryz.prog 147 1 1=true:=by kernel_rfl
theorem tF147_2:tyF Tryz.prog 147 2 2=true:=by kernel_rfl
theorem tA147:tyA Tryz.prog 147 3=true:=by kernel_rfl
theorem fOk63:fnOk Tryz.prog 63=true:=by kernel_rfl
theorem tZ150:zeroCells Tryz.prog 150=some [.slice none 0 0,.slice none 0 0,.slice none 0 0,.slice none 0 0,.map none,.map none,.map none,.bool false]:=by kernel_rfl
theorem tPl150:tyPlaces Tryz.prog 150=some [(0,4),(4,3),(7,1)]:=by kernel_rfl
theorem tS150:tyS Tryz.prog 150 8=true:=by kernel_rfl
theorem tF150_0:tyF Tryz.prog 150 0 0=true:=by kernel_rfl
theorem tA150:tyA Tryz.prog 150 8=true:=by kernel_rfl
theorem fOk88:fnOk Tryz.prog 88=true:=by kernel_rfl
theorem fOk86:fnOk Tryz.prog 86=true:=by kernel_rfl
theorem fOk83:fnOk Tryz.prog 83=true:=by kernel_rfl
theorem tF150_2:tyF Tryz.prog 150 2 7=true:=by kernel_rfl
theorem tF150_1:tyF Tryz.prog 150 1 4=true:=by kernel_rfl
theorem fOk84:fnOk Tryz.prog 84=true:=by kernel_rfl
theorem tZo63:(Tryz.prog.info? 63).bind (·.zero)=some (.map none):=by kernel_rfl
theorem fOk126:fnOk Tryz.prog 126=true:=by kernel_rfl
theorem fOk85:fnOk Tryz.prog 85=true:=by kernel_rfl
theorem fOk64:fnOk Tryz.prog 64=true:=by kernel_rfl
theorem fOk30:fnOk Tryz.prog 30=true:=by kernel_rfl
theorem tPl52:tyPlaces Tryz.prog 52=some [(0,1),(1,1),(2,1),(3,1)]:=by kernel_rfl
theorem fOk65:fnOk Tryz.prog 65=true:=by kernel_rfl
theorem fOk31:fnOk Tryz.prog 31=true:=by kernel_rfl
theorem fOk32:fnOk Tryz.prog 32=true:=by kernel_rfl
theorem fOk7:fnOk Tryz.prog 7=true:=by kernel_rfl
theorem tZ9:zeroCells Tryz.prog 9=some [.string ⟨#[]⟩]:=by kernel_rfl
theorem fOk9:fnOk Tryz.prog 9=true:=by kernel_rfl
theorem fOk33:fnOk Tryz.prog 33=true:=by kernel_rfl
theorem fOk8:fnOk Tryz.prog 8=true:=by kernel_rfl
theorem fOk67:fnOk Tryz.prog 67=true:=by kernel_rfl
theorem tZ103:zeroCells Tryz.prog 103=some [.slice none 0 0,.slice none 0 0,.slice none 0 0,.slice none 0 0,.map none,.map none]:=by kernel_rfl
theorem tPl103:tyPlaces Tryz.prog 103=some [(0,4),(4,1),(5,1)]:=by kernel_rfl
theorem tS103:tyS Tryz.prog 103 6=true:=by kernel_rfl
theorem tF103_2:tyF Tryz.prog 103 2 5=true:=by kernel_rfl
theorem tC101:tyC Tryz.prog 101=true:=by kernel_rfl
theorem tZ182:zeroCells Tryz.prog 182=some [.string ⟨#[]⟩,.string ⟨#[]⟩]:=by kernel_rfl
theorem tPl182:tyPlaces Tryz.prog 182=some [(0,1),(1,1)]:=by kernel_rfl
theorem tEl117:tyEl Tryz.prog 117 182 2 32=true:=by kernel_rfl
theorem tPl80:tyPlaces Tryz.prog 80=some [(0,1),(1,1)]:=by kernel_rfl
theorem fOk90:fnOk Tryz.prog 90=true:=by kernel_rfl
theorem fOk91:fnOk Tryz.prog 91=true:=by kernel_rfl
theorem fOk92:fnOk Tryz.prog 92=true:=by kernel_rfl
theorem tIsSl117:tySlice Tryz.prog 117=true:=by kernel_rfl
theorem fOk69:fnOk Tryz.prog 69=true:=by kernel_rfl
theorem tF103_1:tyF Tryz.prog 103 1 4=true:=by kernel_rfl
theorem tC100:tyC Tryz.prog 100=true:=by kernel_rfl
theorem tZ119:zeroCells Tryz.prog 119=some [.string ⟨#[]⟩,.int .i64 0,.slice none 0 0]:=by kernel_rfl
theorem tPl119:tyPlaces Tryz.prog 119=some [(0,2),(2,1)]:=by kernel_rfl
theorem tIsSl112:tySlice Tryz.prog 112=true:=by kernel_rfl
theorem tA103:tyA Tryz.prog 103 6=true:=by kernel_rfl
theorem fOk38:fnOk Tryz.prog 38=true:=by kernel_rfl
theorem tZ116:zeroCells Tryz.prog 116=some [.slice none 0 0,.slice none 0 0,.slice none 0 0,.slice none 0 0,.map none,.map none,.map none,.map none,.map none]:=by kernel_rfl
theorem tPl116:tyPlaces Tryz.prog 116=some [(0,6),(6,1),(7,1),(8,1)]:=by kernel_rfl
theorem tS116:tyS Tryz.prog 116 9=true:=by kernel_rfl
theorem tF103_0:tyF Tryz.prog 103 0 0=true:=by kernel_rfl
theorem tSl112:tySl Tryz.prog 112 3=true:=by kernel_rfl
theorem tA119:tyA Tryz.prog 119 3=true:=by kernel_rfl
theorem tS119:tyS Tryz.prog 119 3=true:=by kernel_rfl
theorem tF119_1:tyF Tryz.prog 119 1 2=true:=by kernel_rfl
theorem tC117:tyC Tryz.prog 117=true:=by kernel_rfl
theorem tSl117:tySl Tryz.prog 117 2=true:=by kernel_rfl
theorem tA182:tyA Tryz.prog 182 2=true:=by kernel_rfl
theorem tS182:tyS Tryz.prog 182 2=true:=by kernel_rfl
theorem tF182_1:tyF Tryz.prog 182 1 1=true:=by kernel_rfl
theorem fOk127:fnOk Tryz.prog 127=true:=by kernel_rfl
theorem fOk68:fnOk Tryz.prog 68=true:=by kernel_rfl
theorem tF116_3:tyF Tryz.prog 116 3 8=true:=by kernel_rfl
theorem tC114:tyC Tryz.prog 114=true:=by kernel_rfl
theorem tF119_0:tyF Tryz.prog 119 0 0=true:=by kernel_rfl
theorem tF116_0:tyF Tryz.prog 116 0 0=true:=by kernel_rfl
theorem tZ108:zeroCells Tryz.prog 108=some [.string ⟨#[]⟩,.int .i64 0,.bool false]:=by kernel_rfl
theorem tPl108:tyPlaces Tryz.prog 108=some [(0,1),(1,1),(2,1)]:=by kernel_rfl
theorem tS108:tyS Tryz.prog 108 3=true:=by kernel_rfl
theorem tA108:tyA Tryz.prog 108 3=true:=by kernel_rfl
theorem fOk40:fnOk Tryz.prog 40=true:=by kernel_rfl
theorem tEl159:tyEl Tryz.prog 159 108 3 32=true:=by kernel_rfl
theorem tIsSl159:tySlice Tryz.prog 159=true:=by kernel_rfl
theorem tSl159:tySl Tryz.prog 159 3=true:=by kernel_rfl
theorem tF108_1:tyF Tryz.prog 108 1 1=true:=by kernel_rfl
theorem tF108_0:tyF Tryz.prog 108 0 0=true:=by kernel_rfl
theorem fOk42:fnOk Tryz.prog 42=true:=by kernel_rfl
theorem tF116_2:tyF Tryz.prog 116 2 7=true:=by kernel_rfl
theorem tC113:tyC Tryz.prog 113=true:=by kernel_rfl
theorem fOk43:fnOk Tryz.prog 43=true:=by kernel_rfl
theorem tF108_2:tyF Tryz.prog 108 2 2=true:=by kernel_rfl
theorem tF116_1:tyF Tryz.prog 116 1 6=true:=by kernel_rfl
theorem tC75:tyC Tryz.prog 75=true:=by kernel_rfl
theorem fOk93:fnOk Tryz.prog 93=true:=by kernel_rfl
theorem fOk70:fnOk Tryz.prog 70=true:=by kernel_rfl
theorem tB4:tyB Tryz.prog 4=true:=by kernel_rfl
theorem fOk11:fnOk Tryz.prog 11=true:=by kernel_rfl
theorem fOk12:fnOk Tryz.prog 12=true:=by kernel_rfl
def tt:TT:=[(3,[.C,.U,.I .i64,.S 1]),(4,[.C,.S 1,.B]),(5,[.Fn]),(6,[.Fn]),(7,[.Fn]),(8,[.Fn]),(9,[.C,.Str,.Fn]),(10,[.Fn]),(11,[.Fn]),(12,[.Fn]),(15,[.Fn]),(16,[.Fn]),(18,[.Fn]),(20,[.Fn]),(21,[.Fn]),(22,[.C,.Sn,.Sl 2,.Fn,.El 80 2 40]),(23,[.C,.Sn,.Sl 2,.Fn,.El 86 2 40]),(24,[.C,.Sn,.Sl 4,.Fn,.El 52 4 80,.S 1]),(25,[.C,.Sn,.Sl 1,.El 9 1 16,.S 1,.Fn]),(26,[.Fn]),(27,[.S 4,.A 4,.F 0 0,.F 1 1,.F 2 2,.F 3 3,.Z 4 [.slice none 0 0,.slice none 0 0,.slice none 0 0,.slice none 0 0],.Pl [(0,1),(1,1),(2,1),(3,1)],.Fn]),(28,[.El 41 2 24,.Sn,.Sl 2,.Fn]),(29,[.Fn]),(30,[.Fn]),(31,[.Fn]),(32,[.Fn]),(34,[.Fn]),(35,[.Fn]),(38,[.Fn]),(40,[.Fn]),(41,[.Z 2 [.string ⟨#[]⟩,.int .i64 0],.Pl [(0,1),(1,1)],.A 2,.S 2,.F 0 0,.F 1 1]),(42,[.Fn]),(43,[.Fn]),(45,[.C]),(47,[.Fn]),(50,[.C,.Sn,.Sl 4,.El 54 4 56,.S 1]),(52,[.A 4,.Z 4 [.string ⟨#[]⟩,.string ⟨#[]⟩,.slice none 0 0,.slice none 0 0],.S 4,.F 0 0,.Fn,.F 1 1,.F 2 2,.F 3 3,.Pl [(0,1),(1,1),(2,1),(3,1)]]),(53,[.Fn]),(54,[.A 4,.Z 4 [.int .i64 0,.string ⟨#[]⟩,.string ⟨#[]⟩,.string ⟨#[]⟩],.S 4,.F 0 0,.F 1 1,.F 2 2,.F 3 3,.Fn,.Pl [(0,1),(1,1),(2,1),(3,1)]]),(55,[.C,.Sl 1,.Sn,.Fn]),(56,[.Fn,.C]),(57,[.C,.Sn,.Sl 2,.S 1,.Fn]),(58,[.C,.El 3 1 8,.Sn,.S 1,.Sl 1]),(60,[.Z 7 [.pointer none,.slice none 0 0,.slice none 0 0,.map none,.slice none 0 0,.slice none 0 0,.slice none 0 0],.Pl [(0,1),(1,1),(2,1),(3,1),(4,1),(5,1),(6,1)],.S 7,.F 1 1,.F 6 6,.F 2 2,.F 0 0,.F 4 4,.F 3 3]),(61,[.C]),(62,[.C,.Fn]),(63,[.C,.Fn]),(64,[.Fn]),(65,[.Z 9 [.slice none 0 0,.slice none 0 0,.slice none 0 0,.slice none 0 0,.map none,.map none,.map none,.map none,.bool false],.Pl [(0,4),(4,1),(5,1),(6,1),(7,1),(8,1)],.S 9,.F 1 4,.F 2 5,.F 3 6,.F 4 7,.F 0 0,.F 5 8,.Fn]),(66,[.Fn]),(67,[.C,.Sl 1,.Sn,.Fn]),(68,[.Fn]),(69,[.Z 3 [.slice none 0 0,.slice none 0 0,.slice none 0 0],.Pl [(0,1),(1,1),(2,1)],.S 3,.F 0 0,.F 1 1,.F 2 2,.Fn]),(70,[.Fn]),(71,[.Fn]),(72,[.Fn]),(75,[.Fn,.C]),(76,[.Fn]),(77,[.Fn]),(78,[.Fn]),(79,[.Fn]),(80,[.A 2,.Z 2 [.string ⟨#[]⟩,.slice none 0 0],.S 2,.F 0 0,.F 1 1,.Fn,.Pl [(0,1),(1,1)]]),(81,[.S 1,.C]),(83,[.Fn]),(84,[.C,.Sn,.Sl 2,.El 144 2 32,.S 1,.Fn]),(85,[.Fn]),(86,[.A 2,.Z 2 [.string ⟨#[]⟩,.slice none 0 0],.S 2,.F 0 0,.F 1 1,.Fn]),(87,[.Fn,.S 1,.C]),(88,[.Fn]),(90,[.Fn]),(91,[.Fn]),(92,[.Fn]),(93,[.Fn]),(94,[.Fn]),(95,[.Fn]),(96,[.Fn]),(100,[.C]),(101,[.C]),(103,[.Z 6 [.slice none 0 0,.slice none 0 0,.slice none 0 0,.slice none 0 0,.map none,.map none],.Pl [(0,4),(4,1),(5,1)],.S 6,.F 2 5,.F 1 4,.A 6,.F 0 0]),(108,[.Fn,.Z 3 [.string ⟨#[]⟩,.int .i64 0,.bool false],.Pl [(0,1),(1,1),(2,1)],.S 3,.A 3,.F 1 1,.F 0 0,.F 2 2]),(109,[.Fn]),(112,[.Sn,.Sl 3]),(113,[.C]),(114,[.C]),(116,[.Z 9 [.slice none 0 0,.slice none 0 0,.slice none 0 0,.slice none 0 0,.map none,.map none,.map none,.map none,.map none],.Pl [(0,6),(6,1),(7,1),(8,1)],.S 9,.F 3 8,.F 0 0,.F 2 7,.F 1 6]),(117,[.El 182 2 32,.Sn,.C,.Sl 2]),(119,[.Z 3 [.string ⟨#[]⟩,.int .i64 0,.slice none 0 0],.Pl [(0,2),(2,1)],.A 3,.S 3,.F 1 2,.F 0 0]),(125,[.Z 3 [.int .i64 0,.int .i64 0,.int .i64 0],.Pl [(0,1),(1,1),(2,1)],.S 3,.F 1 1,.F 0 0]),(126,[.Fn]),(127,[.Fn]),(130,[.C]),(132,[.Z 4 [.bool false,.map none,.map none,.map none],.Pl [(0,1),(1,1),(2,1),(3,1)],.S 4,.F 1 1,.F 2 2,.F 3 3,.A 4,.F 0 0]),(144,[.A 2,.Z 2 [.string ⟨#[]⟩,.string ⟨#[]⟩],.S 2,.F 0 0,.F 1 1]),(145,[.C]),(147,[.Z 3 [.map none,.map none,.map none],.Pl [(0,1),(1,1),(2,1)],.S 3,.F 0 0,.F 1 1,.F 2 2,.A 3]),(150,[.Z 8 [.slice none 0 0,.slice none 0 0,.slice none 0 0,.slice none 0 0,.map none,.map none,.map none,.bool false],.Pl [(0,4),(4,3),(7,1)],.S 8,.F 0 0,.A 8,.F 2 7,.F 1 4]),(159,[.El 108 3 32,.Sn,.Sl 3]),(163,[.A 2,.Z 2 [.string ⟨#[]⟩,.string ⟨#[]⟩],.S 2,.F 0 0,.F 1 1,.Pl [(0,1),(1,1)]]),(169,[.I .u64,.U]),(182,[.Z 2 [.string ⟨#[]⟩,.string ⟨#[]⟩],.Pl [(0,1),(1,1)],.A 2,.S 2,.F 1 1])]
theorem ok:TTok Tryz.prog tt:=tt_all ⟨⟨tC3,tUn3,tI3,tS3,trivial⟩,⟨tC4,tS4,tB4,trivial⟩,⟨fOk5,trivial⟩,⟨fOk6,trivial⟩,⟨fOk7,trivial⟩,⟨fOk8,trivial⟩,⟨tC9,tStr9,fOk9,trivial⟩,⟨fOk10,trivial⟩,⟨fOk11,trivial⟩,⟨fOk12,trivial⟩,⟨fOk15,trivial⟩,⟨fOk16,trivial⟩,⟨fOk18,trivial⟩,⟨fOk20,trivial⟩,⟨fOk21,trivial⟩,⟨tC22,tIsSl22,tSl22,fOk22,tEl22,trivial⟩,⟨tC23,tIsSl23,tSl23,fOk23,tEl23,trivial⟩,⟨tC24,tIsSl24,tSl24,fOk24,tEl24,tS24,trivial⟩,⟨tC25,tIsSl25,tSl25,tEl25,tS25,fOk25,trivial⟩,⟨fOk26,trivial⟩,⟨tS27,tA27,tF27_0,tF27_1,tF27_2,tF27_3,⟨tZ27,rfl⟩,tPl27,fOk27,trivial⟩,⟨tEl28,tIsSl28,tSl28,fOk28,trivial⟩,⟨fOk29,trivial⟩,⟨fOk30,trivial⟩,⟨fOk31,trivial⟩,⟨fOk32,trivial⟩,⟨fOk34,trivial⟩,⟨fOk35,trivial⟩,⟨fOk38,trivial⟩,⟨fOk40,trivial⟩,⟨⟨tZ41,rfl⟩,tPl41,tA41,tS41,tF41_0,tF41_1,trivial⟩,⟨fOk42,trivial⟩,⟨fOk43,trivial⟩,⟨tC45,trivial⟩,⟨fOk47,trivial⟩,⟨tC50,tIsSl50,tSl50,tEl50,tS50,trivial⟩,⟨tA52,⟨tZ52,rfl⟩,tS52,tF52_0,fOk52,tF52_1,tF52_2,tF52_3,tPl52,trivial⟩,⟨fOk53,trivial⟩,⟨tA54,⟨tZ54,rfl⟩,tS54,tF54_0,tF54_1,tF54_2,tF54_3,fOk54,tPl54,trivial⟩,⟨tC55,tSl55,tIsSl55,fOk55,trivial⟩,⟨fOk56,tC56,trivial⟩,⟨tC57,tIsSl57,tSl57,tS57,fOk57,trivial⟩,⟨tC58,tEl58,tIsSl58,tS58,tSl58,trivial⟩,⟨⟨tZ60,rfl⟩,tPl60,tS60,tF60_1,tF60_6,tF60_2,tF60_0,tF60_4,tF60_3,trivial⟩,⟨tC61,trivial⟩,⟨tC62,fOk62,trivial⟩,⟨tC63,fOk63,trivial⟩,⟨fOk64,trivial⟩,⟨⟨tZ65,rfl⟩,tPl65,tS65,tF65_1,tF65_2,tF65_3,tF65_4,tF65_0,tF65_5,fOk65,trivial⟩,⟨fOk66,trivial⟩,⟨tC67,tSl67,tIsSl67,fOk67,trivial⟩,⟨fOk68,trivial⟩,⟨⟨tZ69,rfl⟩,tPl69,tS69,tF69_0,tF69_1,tF69_2,fOk69,trivial⟩,⟨fOk70,trivial⟩,⟨fOk71,trivial⟩,⟨fOk72,trivial⟩,⟨fOk75,tC75,trivial⟩,⟨fOk76,trivial⟩,⟨fOk77,trivial⟩,⟨fOk78,trivial⟩,⟨fOk79,trivial⟩,⟨tA80,⟨tZ80,rfl⟩,tS80,tF80_0,tF80_1,fOk80,tPl80,trivial⟩,⟨tS81,tC81,trivial⟩,⟨fOk83,trivial⟩,⟨tC84,tIsSl84,tSl84,tEl84,tS84,fOk84,trivial⟩,⟨fOk85,trivial⟩,⟨tA86,⟨tZ86,rfl⟩,tS86,tF86_0,tF86_1,fOk86,trivial⟩,⟨fOk87,tS87,tC87,trivial⟩,⟨fOk88,trivial⟩,⟨fOk90,trivial⟩,⟨fOk91,trivial⟩,⟨fOk92,trivial⟩,⟨fOk93,trivial⟩,⟨fOk94,trivial⟩,⟨fOk95,trivial⟩,⟨fOk96,trivial⟩,⟨tC100,trivial⟩,⟨tC101,trivial⟩,⟨⟨tZ103,rfl⟩,tPl103,tS103,tF103_2,tF103_1,tA103,tF103_0,trivial⟩,⟨fOk108,⟨tZ108,rfl⟩,tPl108,tS108,tA108,tF108_1,tF108_0,tF108_2,trivial⟩,⟨fOk109,trivial⟩,⟨tIsSl112,tSl112,trivial⟩,⟨tC113,trivial⟩,⟨tC114,trivial⟩,⟨⟨tZ116,rfl⟩,tPl116,tS116,tF116_3,tF116_0,tF116_2,tF116_1,trivial⟩,⟨tEl117,tIsSl117,tC117,tSl117,trivial⟩,⟨⟨tZ119,rfl⟩,tPl119,tA119,tS119,tF119_1,tF119_0,trivial⟩,⟨⟨tZ125,rfl⟩,tPl125,tS125,tF125_1,tF125_0,trivial⟩,⟨fOk126,trivial⟩,⟨fOk127,trivial⟩,⟨tC130,trivial⟩,⟨⟨tZ132,rfl⟩,tPl132,tS132,tF132_1,tF132_2,tF132_3,tA132,tF132_0,trivial⟩,⟨tA144,⟨tZ144,rfl⟩,tS144,tF144_0,tF144_1,trivial⟩,⟨tC145,trivial⟩,⟨⟨tZ147,rfl⟩,tPl147,tS147,tF147_0,tF147_1,tF147_2,tA147,trivial⟩,⟨⟨tZ150,rfl⟩,tPl150,tS150,tF150_0,tA150,tF150_2,tF150_1,trivial⟩,⟨tEl159,tIsSl159,tSl159,trivial⟩,⟨tA163,⟨tZ163,rfl⟩,tS163,tF163_0,tF163_1,tPl163,trivial⟩,⟨tI169,tUn169,trivial⟩,⟨⟨tZ182,rfl⟩,tPl182,tA182,tS182,tF182_1,trivial⟩,trivial⟩
instance {N:Nat} {w:World} {m:Mem} {o:Nat->Prop} {p:Nat} {l:Nat->Option (Option (Nat×Cap))} {g:Gl} {h:GlOk g m}:TC ⟨Tryz.prog,N,w,m,o,p,l,g,h⟩ tt:=⟨ok⟩
end Go.Proofs.YtcihpgamojpcnaaGreat
