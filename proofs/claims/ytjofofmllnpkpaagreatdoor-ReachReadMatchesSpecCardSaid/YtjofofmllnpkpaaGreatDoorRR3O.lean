/- Part of the proof: R3T, K, R3O. -/
import Derived.Test.YtjofofmllnpkpaaGreatDoorRZA
import Derived.Lib.Repeat
import Derived.Lib.ItoaLen
import Derived.Test.YtjofofmllnpkpaaGreatDoorRWA
import Derived.Test.YtjofofmllnpkpaaGreatDoorRDM
import Derived.Test.YtjofofmllnpkpaaGreatDoorRDC
import Derived.Test.YtjofofmllnpkpaaGreatDoorRDU
import Derived.Test.YtjofofmllnpkpaaGreatDoorProg
import Derived.KernelRfl
import Derived.Test.YtjofofmllnpkpaaGreatDoorRPvU
import Derived.WideKeyArgs
import Derived.Deep.Slices
import Derived.ProofKit
import Derived.OpenShut
import Derived.JoinedCond
namespace Go.Proofs.YtjofofmllnpkpaaGreatDoor
open Go Go.Pv
set_option linter.unusedVariables false
set_option maxRecDepth 100000
variable{mx:Int}
theorem mixed:Tryz.prog.follows .mixedOrders=true:=by kernel_rfl
structure TIface where
 Name:(List UInt8)
 Methods:(List (List UInt8))
 deriving DecidableEq
structure TMethod where
 Name:(List UInt8)
 Func:(List UInt8)
 deriving DecidableEq
structure TType where
 Name:(List UInt8)
 Methods:(List TMethod)
 deriving DecidableEq
structure TCall where
 Kind:Int
 Target:(List UInt8)
 Method:(List UInt8)
 Feature:(List UInt8)
 deriving DecidableEq
structure TFunc where
 Name:(List UInt8)
 Component:(List UInt8)
 Calls:(List TCall)
 Makes:(List (List UInt8))
 deriving DecidableEq
structure TGraph where
 Ifaces:(List TIface)
 Types:(List TType)
 Funcs:(List TFunc)
 Entries:(List (List UInt8))
 deriving DecidableEq
structure Treach_checker where
 loose:Bool
 ifaces:(List ((List UInt8)×TIface))
 types:(List ((List UInt8)×Bool))
 funcs:(List ((List UInt8)×Bool))
 deriving DecidableEq
structure Tprovenderref6_reader where
 g:TGraph
 inside:(List UInt8)
 twice:Bool
 deriving DecidableEq
structure Tprovenderref6_names where
 ifaces:(List ((List UInt8)×(List ((List UInt8)×Bool))))
 types:(List ((List UInt8)×Bool))
 funcs:(List ((List UInt8)×Bool))
 deriving DecidableEq
structure Tprovenderref6_checker where
 g:TGraph
 n:Tprovenderref6_names
 loose:Bool
 deriving DecidableEq
def gl(mx:Int):Gl:=[(0,[V.con (.int .i64 mx)])]
def encI_i64(x:Int):List V:=[(iV x)]
theorem imms_encI_i64(x:Int):Imms (encI_i64 x):=(.cons (Imm.con _) .nil)
theorem one_encI_i64(x:Int):(encI_i64 x).all oneV=true:=rfl
instance:EI encI_i64:=⟨imms_encI_i64,one_encI_i64⟩
def encS(x:(List UInt8)):List V:=[(sV x)]
theorem imms_encS(x:(List UInt8)):Imms (encS x):=(.cons (Imm.con _) .nil)
theorem one_encS(x:(List UInt8)):(encS x).all oneV=true:=rfl
instance:EI encS:=⟨imms_encS,one_encS⟩
def encTIface(x:TIface):List V:=[(sV x.Name),(V.lst 1 (x.Methods.map encS))]
theorem imms_encTIface(x:TIface):Imms (encTIface x):=(.cons (Imm.con _) (.cons (Imm.lst _ _) .nil))
theorem one_encTIface(x:TIface):(encTIface x).all oneV=true:=rfl
instance:EI encTIface:=⟨imms_encTIface,one_encTIface⟩
@[simp] theorem len_encTIface(x:TIface):(encTIface x).length=2:=rfl
def encTMethod(x:TMethod):List V:=[(sV x.Name),(sV x.Func)]
theorem imms_encTMethod(x:TMethod):Imms (encTMethod x):=(.cons (Imm.con _) (.cons (Imm.con _) .nil))
theorem one_encTMethod(x:TMethod):(encTMethod x).all oneV=true:=rfl
instance:EI encTMethod:=⟨imms_encTMethod,one_encTMethod⟩
@[simp] theorem len_encTMethod(x:TMethod):(encTMethod x).length=2:=rfl
def encTType(x:TType):List V:=[(sV x.Name),(V.lst 2 (x.Methods.map encTMethod))]
theorem imms_encTType(x:TType):Imms (encTType x):=(.cons (Imm.con _) (.cons (Imm.lst _ _) .nil))
theorem one_encTType(x:TType):(encTType x).all oneV=true:=rfl
instance:EI encTType:=⟨imms_encTType,one_encTType⟩
@[simp] theorem len_encTType(x:TType):(encTType x).length=2:=rfl
def encTCall(x:TCall):List V:=[(iV x.Kind),(sV x.Target),(sV x.Method),(sV x.Feature)]
theorem imms_encTCall(x:TCall):Imms (encTCall x):=(.cons (Imm.con _) (.cons (Imm.con _) (.cons (Imm.con _) (.cons (Imm.con _) .nil))))
theorem one_encTCall(x:TCall):(encTCall x).all oneV=true:=rfl
instance:EI encTCall:=⟨imms_encTCall,one_encTCall⟩
@[simp] theorem len_encTCall(x:TCall):(encTCall x).length=4:=rfl
def encTFunc(x:TFunc):List V:=[(sV x.Name),(sV x.Component),(V.lst 4 (x.Calls.map encTCall)),(V.lst 1 (x.Makes.map encS))]
theorem imms_encTFunc(x:TFunc):Imms (encTFunc x):=(.cons (Imm.con _) (.cons (Imm.con _) (.cons (Imm.lst _ _) (.cons (Imm.lst _ _) .nil))))
theorem one_encTFunc(x:TFunc):(encTFunc x).all oneV=true:=rfl
instance:EI encTFunc:=⟨imms_encTFunc,one_encTFunc⟩
@[simp] theorem len_encTFunc(x:TFunc):(encTFunc x).length=4:=rfl
def encTGraph(x:TGraph):List V:=[(V.lst 2 (x.Ifaces.map encTIface)),(V.lst 2 (x.Types.map encTType)),(V.lst 4 (x.Funcs.map encTFunc)),(V.lst 1 (x.Entries.map encS))]
theorem imms_encTGraph(x:TGraph):Imms (encTGraph x):=(.cons (Imm.lst _ _) (.cons (Imm.lst _ _) (.cons (Imm.lst _ _) (.cons (Imm.lst _ _) .nil))))
theorem one_encTGraph(x:TGraph):(encTGraph x).all oneV=true:=rfl
instance:EI encTGraph:=⟨imms_encTGraph,one_encTGraph⟩
@[simp] theorem len_encTGraph(x:TGraph):(encTGraph x).length=4:=rfl
def encTprovenderref6_reader(x:Tprovenderref6_reader):List V:=[(V.lst 2 (x.g.Ifaces.map encTIface)),(V.lst 2 (x.g.Types.map encTType)),(V.lst 4 (x.g.Funcs.map encTFunc)),(V.lst 1 (x.g.Entries.map encS)),(sV x.inside),(bV x.twice)]
theorem imms_encTprovenderref6_reader(x:Tprovenderref6_reader):Imms (encTprovenderref6_reader x):=(.cons (Imm.lst _ _) (.cons (Imm.lst _ _) (.cons (Imm.lst _ _) (.cons (Imm.lst _ _) (.cons (Imm.con _) (.cons (Imm.con _) .nil))))))
theorem one_encTprovenderref6_reader(x:Tprovenderref6_reader):(encTprovenderref6_reader x).all oneV=true:=rfl
instance:EI encTprovenderref6_reader:=⟨imms_encTprovenderref6_reader,one_encTprovenderref6_reader⟩
@[simp] theorem len_encTprovenderref6_reader(x:Tprovenderref6_reader):(encTprovenderref6_reader x).length=6:=rfl
theorem eqp9{d:Nat}:EqOk Tryz.prog (d+1) 9 1 false (fun l=>∃n,l=[.string n]):=eqOk_str (show Tryz.prog.underlying 9=some (.string) by kernel_rfl) (show tyC Tryz.prog 9=true by kernel_rfl)
def cv64(x:TMethod):List Value:=[str x.Name]++([str x.Func]++[])
theorem inj_cv64(x y:TMethod)(h:cv64 x=cv64 y):x=y:=by
 obtain⟨h0,h⟩:=List.append_inj h rfl
 obtain⟨h1,h⟩:=List.append_inj h rfl
 obtain⟨a0,a1⟩:=x
 obtain⟨b0,b1⟩:=y
 obtain rfl:a0=b0:=inj_str _ _ (List.cons.inj h0).1
 obtain rfl:a1=b1:=inj_str _ _ (List.cons.inj h1).1
 rfl
theorem eqp64 {d:Nat}:EqOk Tryz.prog (d+2) 64 2 true (fun l=>∃x:TMethod,l=cv64 x):=(eqOk_struct (d:=d+1) (fs:=[(Field.mk "Name" 9 0 false "" "" 0),(Field.mk "Func" 9 1 false "" "" 16)]) (by kernel_rfl) (by kernel_rfl) (by kernel_rfl) (by kernel_rfl) (eqF_cons eqp9 (by simp) rfl (by simp) (eqF_cons eqp9 (by simp) rfl (by simp) eqF_nil))).weaken (fun l ⟨x,hx⟩=>by subst hx;exact⟨_,_,rfl,⟨_,rfl⟩,⟨_,_,rfl,⟨_,rfl⟩,rfl⟩⟩)
theorem eqk64:EqOk Tryz.prog 10000 64 2 true (fun l=>∃x:TMethod,l=cv64 x):=eqp64 (d:=9998)
theorem eqp3{d:Nat}:EqOk Tryz.prog (d+1) 3 1 false (fun l=>∃n,l=[.int .i64 n]):=eqOk_int (show Tryz.prog.underlying 3=some (.int .i64) by kernel_rfl) (show tyC Tryz.prog 3=true by kernel_rfl)
def cv74(x:TCall):List Value:=[.int .i64 x.Kind]++([str x.Target]++([str x.Method]++([str x.Feature]++[])))
theorem inj_cv74(x y:TCall)(h:cv74 x=cv74 y):x=y:=by
 obtain⟨h0,h⟩:=List.append_inj h rfl
 obtain⟨h1,h⟩:=List.append_inj h rfl
 obtain⟨h2,h⟩:=List.append_inj h rfl
 obtain⟨h3,h⟩:=List.append_inj h rfl
 obtain⟨a0,a1,a2,a3⟩:=x
 obtain⟨b0,b1,b2,b3⟩:=y
 obtain rfl:a0=b0:=inj_int _ _ (List.cons.inj h0).1
 obtain rfl:a1=b1:=inj_str _ _ (List.cons.inj h1).1
 obtain rfl:a2=b2:=inj_str _ _ (List.cons.inj h2).1
 obtain rfl:a3=b3:=inj_str _ _ (List.cons.inj h3).1
 rfl
theorem eqp74 {d:Nat}:EqOk Tryz.prog (d+2) 74 4 true (fun l=>∃x:TCall,l=cv74 x):=(eqOk_struct (d:=d+1) (fs:=[(Field.mk "Kind" 3 0 false "" "" 0),(Field.mk "Target" 9 1 false "" "" 8),(Field.mk "Method" 9 2 false "" "" 24),(Field.mk "Feature" 9 3 false "" "" 40)]) (by kernel_rfl) (by kernel_rfl) (by kernel_rfl) (by kernel_rfl) (eqF_cons eqp3 (by simp) rfl (by simp) (eqF_cons eqp9 (by simp) rfl (by simp) (eqF_cons eqp9 (by simp) rfl (by simp) (eqF_cons eqp9 (by simp) rfl (by simp) eqF_nil))))).weaken (fun l ⟨x,hx⟩=>by subst hx;exact⟨_,_,rfl,⟨_,rfl⟩,⟨_,_,rfl,⟨_,rfl⟩,⟨_,_,rfl,⟨_,rfl⟩,⟨_,_,rfl,⟨_,rfl⟩,rfl⟩⟩⟩⟩)
theorem eqk74:EqOk Tryz.prog 10000 74 4 true (fun l=>∃x:TCall,l=cv74 x):=eqp74 (d:=9998)
def encM9_56(p:(List UInt8)×TIface):Value×V:=(str p.1,(V.agg [(sV p.2.Name),(V.lst 1 (p.2.Methods.map encS))]))
abbrev encM9_56_val(v:TIface):V:=(V.agg [(sV v.Name),(V.lst 1 (v.Methods.map encS))])
theorem encM9_56_puts(xs:List ((List UInt8)×TIface))(k:(List UInt8))(v:TIface):Puts (str k) (encM9_56_val v) (xs.map encM9_56) ((mput xs k v).map encM9_56):=puts_map (kv:=fun k=>str k) (ev:=encM9_56_val) inj_str xs k v
theorem encM9_56_look(xs:List ((List UInt8)×TIface))(k:(List UInt8)):Look (str k) (xs.map encM9_56) ((mget xs k).map encM9_56_val):=look_map (kv:=fun k=>str k) (ev:=encM9_56_val) inj_str xs k
theorem encM9_56_imm{xs:List ((List UInt8)×TIface)}:∀p,p∈xs.map encM9_56->Imm p.2:=by
 intro p hp
 obtain⟨x,_,rfl⟩:=List.mem_map.1 hp
 exact(Imm.agg (.cons (Imm.con _) (.cons (Imm.lst _ _) .nil)))
instance:EM encM9_56:=⟨fun _=>(Imm.agg (.cons (Imm.con _) (.cons (Imm.lst _ _) .nil)))⟩
theorem encM9_56_good{xs:List ((List UInt8)×TIface)}:∀p,p∈xs.map encM9_56->isStr p.1:=by
 intro p hp
 obtain⟨x,_,rfl⟩:=List.mem_map.1 hp
 exact⟨_,rfl⟩
def encM9_4(p:(List UInt8)×Bool):Value×V:=(str p.1,(bV p.2))
abbrev encM9_4_val(v:Bool):V:=(bV v)
theorem encM9_4_puts(xs:List ((List UInt8)×Bool))(k:(List UInt8))(v:Bool):Puts (str k) (encM9_4_val v) (xs.map encM9_4) ((mput xs k v).map encM9_4):=puts_map (kv:=fun k=>str k) (ev:=encM9_4_val) inj_str xs k v
theorem encM9_4_look(xs:List ((List UInt8)×Bool))(k:(List UInt8)):Look (str k) (xs.map encM9_4) ((mget xs k).map encM9_4_val):=look_map (kv:=fun k=>str k) (ev:=encM9_4_val) inj_str xs k
theorem encM9_4_imm{xs:List ((List UInt8)×Bool)}:∀p,p∈xs.map encM9_4->Imm p.2:=by
 intro p hp
 obtain⟨x,_,rfl⟩:=List.mem_map.1 hp
 exact(Imm.con _)
theorem encM9_4_im(p:(List UInt8)×Bool):Imm (encM9_4 p).2:=(Imm.con _)
instance:EM encM9_4:=⟨fun _=>(Imm.con _)⟩
theorem encM9_4_good{xs:List ((List UInt8)×Bool)}:∀p,p∈xs.map encM9_4->isStr p.1:=by
 intro p hp
 obtain⟨x,_,rfl⟩:=List.mem_map.1 hp
 exact⟨_,rfl⟩
def encTreach_checker(x:Treach_checker):List V:=[(bV x.loose),(V.imap (x.ifaces.map encM9_56)),(V.imap (x.types.map encM9_4)),(V.imap (x.funcs.map encM9_4))]
theorem imms_encTreach_checker(x:Treach_checker):Imms (encTreach_checker x):=(.cons (Imm.con _) (.cons (Imm.imap _) (.cons (Imm.imap _) (.cons (Imm.imap _) .nil))))
theorem one_encTreach_checker(x:Treach_checker):(encTreach_checker x).all oneV=true:=rfl
instance:EI encTreach_checker:=⟨imms_encTreach_checker,one_encTreach_checker⟩
@[simp] theorem len_encTreach_checker(x:Treach_checker):(encTreach_checker x).length=4:=rfl
def encM9_115(p:(List UInt8)×(List ((List UInt8)×Bool))):Value×V:=(str p.1,(V.imap (p.2.map encM9_4)))
abbrev encM9_115_val(v:(List ((List UInt8)×Bool))):V:=(V.imap (v.map encM9_4))
theorem encM9_115_look(xs:List ((List UInt8)×(List ((List UInt8)×Bool))))(k:(List UInt8)):Look (str k) (xs.map encM9_115) ((mget xs k).map encM9_115_val):=look_map (kv:=fun k=>str k) (ev:=encM9_115_val) inj_str xs k
instance:EM encM9_115:=⟨fun _=>(Imm.imap _)⟩
theorem encM9_115_good{xs:List ((List UInt8)×(List ((List UInt8)×Bool)))}:∀p,p∈xs.map encM9_115->isStr p.1:=by
 intro p hp
 obtain⟨x,_,rfl⟩:=List.mem_map.1 hp
 exact⟨_,rfl⟩
def encTprovenderref6_names(x:Tprovenderref6_names):List V:=[(V.imap (x.ifaces.map encM9_115)),(V.imap (x.types.map encM9_4)),(V.imap (x.funcs.map encM9_4))]
theorem imms_encTprovenderref6_names(x:Tprovenderref6_names):Imms (encTprovenderref6_names x):=(.cons (Imm.imap _) (.cons (Imm.imap _) (.cons (Imm.imap _) .nil)))
theorem one_encTprovenderref6_names(x:Tprovenderref6_names):(encTprovenderref6_names x).all oneV=true:=rfl
instance:EI encTprovenderref6_names:=⟨imms_encTprovenderref6_names,one_encTprovenderref6_names⟩
@[simp] theorem len_encTprovenderref6_names(x:Tprovenderref6_names):(encTprovenderref6_names x).length=3:=rfl
def encTprovenderref6_checker(x:Tprovenderref6_checker):List V:=[(V.lst 2 (x.g.Ifaces.map encTIface)),(V.lst 2 (x.g.Types.map encTType)),(V.lst 4 (x.g.Funcs.map encTFunc)),(V.lst 1 (x.g.Entries.map encS)),(V.imap (x.n.ifaces.map encM9_115)),(V.imap (x.n.types.map encM9_4)),(V.imap (x.n.funcs.map encM9_4)),(bV x.loose)]
theorem imms_encTprovenderref6_checker(x:Tprovenderref6_checker):Imms (encTprovenderref6_checker x):=(.cons (Imm.lst _ _) (.cons (Imm.lst _ _) (.cons (Imm.lst _ _) (.cons (Imm.lst _ _) (.cons (Imm.imap _) (.cons (Imm.imap _) (.cons (Imm.imap _) (.cons (Imm.con _) .nil))))))))
theorem one_encTprovenderref6_checker(x:Tprovenderref6_checker):(encTprovenderref6_checker x).all oneV=true:=rfl
instance:EI encTprovenderref6_checker:=⟨imms_encTprovenderref6_checker,one_encTprovenderref6_checker⟩
@[simp] theorem len_encTprovenderref6_checker(x:Tprovenderref6_checker):(encTprovenderref6_checker x).length=8:=rfl
def dencTType(x:TType):List V:=[(sV x.Name),(V.dsl 64 2 (x.Methods.map encTMethod))]
theorem und_dencTType:UndE dencTType encTType:=fun x=>(.cons (und_con _) (.cons (und_dsl _ _ imms_encTMethod _) .nil))
@[simp] theorem len_dencTType(x:TType):(dencTType x).length=2:=rfl
instance:EK dencTType:=⟨fun x c hc=>by
 obtain⟨j,hj⟩:=List.getElem?_of_mem hc
 have hl:=(List.getElem?_eq_some_iff.1 hj).1
 rw[(und_dencTType x).1] at hl
 exact((und_dencTType x).2 j c _ hj (List.getElem?_eq_getElem hl)).2⟩
def dencTFunc(x:TFunc):List V:=[(sV x.Name),(sV x.Component),(V.dsl 74 4 (x.Calls.map encTCall)),(V.dsl 9 1 (x.Makes.map encS))]
theorem und_dencTFunc:UndE dencTFunc encTFunc:=fun x=>(.cons (und_con _) (.cons (und_con _) (.cons (und_dsl _ _ imms_encTCall _) (.cons (und_dsl _ _ imms_encS _) .nil))))
@[simp] theorem len_dencTFunc(x:TFunc):(dencTFunc x).length=4:=rfl
instance:EK dencTFunc:=⟨fun x c hc=>by
 obtain⟨j,hj⟩:=List.getElem?_of_mem hc
 have hl:=(List.getElem?_eq_some_iff.1 hj).1
 rw[(und_dencTFunc x).1] at hl
 exact((und_dencTFunc x).2 j c _ hj (List.getElem?_eq_getElem hl)).2⟩
def encM9_266(p:(List UInt8)×(List ((List UInt8)×Bool))):Value×V:=(str p.1,(V.dmp (p.2.map encM9_4)))
theorem encM9_266_und(p:(List UInt8)×(List ((List UInt8)×Bool))):(encM9_266 p).1=(encM9_115 p).1/\Und (encM9_266 p).2 (encM9_115 p).2/\Keep (encM9_266 p).2:=⟨rfl,und_ents encM9_4_im _,Keep.dmp _⟩
instance:EMK encM9_266:=⟨fun p=>(encM9_266_und p).2.2⟩
theorem encM9_266_good{xs:List ((List UInt8)×(List ((List UInt8)×Bool)))}:∀p,p∈xs.map encM9_266->isStr p.1:=by
 intro p hp
 obtain⟨x,_,rfl⟩:=List.mem_map.1 hp
 exact⟨_,rfl⟩
theorem tZ27:zeroCells Tryz.prog 27=some [.slice none 0 0,.slice none 0 0,.slice none 0 0,.slice none 0 0]:=by kernel_rfl
theorem tStr9:tyStr Tryz.prog 9=true:=by kernel_rfl
theorem tPl27:tyPlaces Tryz.prog 27=some [(0,1),(1,1),(2,1),(3,1)]:=by kernel_rfl
theorem tS27:tyS Tryz.prog 27 4=true:=by kernel_rfl
theorem tA27:tyA Tryz.prog 27 4=true:=by kernel_rfl
theorem tZ39:zeroCells Tryz.prog 39=some [.slice none 0 0,.slice none 0 0,.slice none 0 0,.slice none 0 0,.int .i64 0]:=by kernel_rfl
theorem tPl39:tyPlaces Tryz.prog 39=some [(0,4),(4,1)]:=by kernel_rfl
theorem tS39:tyS Tryz.prog 39 5=true:=by kernel_rfl
theorem fOk11:fnOk Tryz.prog 11=true:=by kernel_rfl
theorem tIsSl25:tySlice Tryz.prog 25=true:=by kernel_rfl
theorem tSl25:tySl Tryz.prog 25 1=true:=by kernel_rfl
theorem tC9:tyC Tryz.prog 9=true:=by kernel_rfl
theorem fOk16:fnOk Tryz.prog 16=true:=by kernel_rfl
theorem tEl25:tyEl Tryz.prog 25 9 1 16=true:=by kernel_rfl
theorem tZ9:zeroCells Tryz.prog 9=some [.string ⟨#[]⟩]:=by kernel_rfl
theorem fOk12:fnOk Tryz.prog 12=true:=by kernel_rfl
theorem tF39_1:tyF Tryz.prog 39 1 4=true:=by kernel_rfl
theorem tS3:tyS Tryz.prog 3 1=true:=by kernel_rfl
theorem tF39_0:tyF Tryz.prog 39 0 0=true:=by kernel_rfl
theorem tF27_0:tyF Tryz.prog 27 0 0=true:=by kernel_rfl
theorem tC22:tyC Tryz.prog 22=true:=by kernel_rfl
theorem tZ56:zeroCells Tryz.prog 56=some [.string ⟨#[]⟩,.slice none 0 0]:=by kernel_rfl
theorem tPl56:tyPlaces Tryz.prog 56=some [(0,1),(1,1)]:=by kernel_rfl
theorem tS22:tyS Tryz.prog 22 1=true:=by kernel_rfl
theorem tEl22:tyEl Tryz.prog 22 56 2 40=true:=by kernel_rfl
theorem tIsSl22:tySlice Tryz.prog 22=true:=by kernel_rfl
theorem tF27_1:tyF Tryz.prog 27 1 1=true:=by kernel_rfl
theorem tC23:tyC Tryz.prog 23=true:=by kernel_rfl
theorem tZ61:zeroCells Tryz.prog 61=some [.string ⟨#[]⟩,.slice none 0 0]:=by kernel_rfl
theorem tPl61:tyPlaces Tryz.prog 61=some [(0,1),(1,1)]:=by kernel_rfl
theorem tS23:tyS Tryz.prog 23 1=true:=by kernel_rfl
theorem tEl23:tyEl Tryz.prog 23 61 2 40=true:=by kernel_rfl
theorem tIsSl23:tySlice Tryz.prog 23=true:=by kernel_rfl
theorem tF27_2:tyF Tryz.prog 27 2 2=true:=by kernel_rfl
theorem tC24:tyC Tryz.prog 24=true:=by kernel_rfl
theorem tZ71:zeroCells Tryz.prog 71=some [.string ⟨#[]⟩,.string ⟨#[]⟩,.slice none 0 0,.slice none 0 0]:=by kernel_rfl
theorem tPl71:tyPlaces Tryz.prog 71=some [(0,1),(1,1),(2,1),(3,1)]:=by kernel_rfl
theorem tS24:tyS Tryz.prog 24 1=true:=by kernel_rfl
theorem tEl24:tyEl Tryz.prog 24 71 4 80=true:=by kernel_rfl
theorem tIsSl24:tySlice Tryz.prog 24=true:=by kernel_rfl
theorem tF27_3:tyF Tryz.prog 27 3 3=true:=by kernel_rfl
theorem tC25:tyC Tryz.prog 25=true:=by kernel_rfl
theorem tS25:tyS Tryz.prog 25 1=true:=by kernel_rfl
theorem tC3:tyC Tryz.prog 3=true:=by kernel_rfl
theorem tSl23:tySl Tryz.prog 23 2=true:=by kernel_rfl
theorem tF61_1:tyF Tryz.prog 61 1 1=true:=by kernel_rfl
theorem tZ64:zeroCells Tryz.prog 64=some [.string ⟨#[]⟩,.string ⟨#[]⟩]:=by kernel_rfl
theorem tPl64:tyPlaces Tryz.prog 64=some [(0,1),(1,1)]:=by kernel_rfl
theorem tC59:tyC Tryz.prog 59=true:=by kernel_rfl
theorem tEl59:tyEl Tryz.prog 59 64 2 32=true:=by kernel_rfl
theorem tIsSl59:tySlice Tryz.prog 59=true:=by kernel_rfl
theorem tS59:tyS Tryz.prog 59 1=true:=by kernel_rfl
theorem tSl24:tySl Tryz.prog 24 4=true:=by kernel_rfl
theorem tZ74:zeroCells Tryz.prog 74=some [.int .i64 0,.string ⟨#[]⟩,.string ⟨#[]⟩,.string ⟨#[]⟩]:=by kernel_rfl
theorem tPl74:tyPlaces Tryz.prog 74=some [(0,1),(1,1),(2,1),(3,1)]:=by kernel_rfl
theorem tS74:tyS Tryz.prog 74 4=true:=by kernel_rfl
theorem tF71_3:tyF Tryz.prog 71 3 3=true:=by kernel_rfl
theorem tF74_3:tyF Tryz.prog 74 3 3=true:=by kernel_rfl
theorem tS9:tyS Tryz.prog 9 1=true:=by kernel_rfl
theorem tA74:tyA Tryz.prog 74 4=true:=by kernel_rfl
theorem tF74_1:tyF Tryz.prog 74 1 1=true:=by kernel_rfl
theorem tF74_2:tyF Tryz.prog 74 2 2=true:=by kernel_rfl
theorem fOk75:fnOk Tryz.prog 75=true:=by kernel_rfl
theorem tF71_2:tyF Tryz.prog 71 2 2=true:=by kernel_rfl
theorem tC69:tyC Tryz.prog 69=true:=by kernel_rfl
theorem tEl69:tyEl Tryz.prog 69 74 4 56=true:=by kernel_rfl
theorem tIsSl69:tySlice Tryz.prog 69=true:=by kernel_rfl
theorem tS69:tyS Tryz.prog 69 1=true:=by kernel_rfl
theorem fOk39:fnOk Tryz.prog 39=true:=by kernel_rfl
theorem fOk13:fnOk Tryz.prog 13=true:=by kernel_rfl
theorem tSl59:tySl Tryz.prog 59 2=true:=by kernel_rfl
theorem tA64:tyA Tryz.prog 64 2=true:=by kernel_rfl
theorem tS64:tyS Tryz.prog 64 2=true:=by kernel_rfl
theorem tF64_0:tyF Tryz.prog 64 0 0=true:=by kernel_rfl
theorem fOk77:fnOk Tryz.prog 77=true:=by kernel_rfl
theorem fOk42:fnOk Tryz.prog 42=true:=by kernel_rfl
theorem fOk41:fnOk Tryz.prog 41=true:=by kernel_rfl
theorem fOk109:fnOk Tryz.prog 109=true:=by kernel_rfl
theorem tI149:tyI Tryz.prog 149 .u64=true:=by kernel_rfl
theorem tUn3:tyU Tryz.prog 3=true:=by kernel_rfl
theorem tI3:tyI Tryz.prog 3 .i64=true:=by kernel_rfl
theorem tUn149:tyU Tryz.prog 149=true:=by kernel_rfl
theorem fOk174:fnOk Tryz.prog 174=true:=by kernel_rfl
theorem fOk139:fnOk Tryz.prog 139=true:=by kernel_rfl
theorem fOk110:fnOk Tryz.prog 110=true:=by kernel_rfl
theorem fOk76:fnOk Tryz.prog 76=true:=by kernel_rfl
theorem fOk40:fnOk Tryz.prog 40=true:=by kernel_rfl
theorem fOk44:fnOk Tryz.prog 44=true:=by kernel_rfl
theorem fOk43:fnOk Tryz.prog 43=true:=by kernel_rfl
theorem fOk45:fnOk Tryz.prog 45=true:=by kernel_rfl
theorem fOk47:fnOk Tryz.prog 47=true:=by kernel_rfl
theorem fOk46:fnOk Tryz.prog 46=true:=by kernel_rfl
theorem tS103:tyS Tryz.prog 103 1=true:=by kernel_rfl
theorem tSl22:tySl Tryz.prog 22 2=true:=by kernel_rfl
theorem tA56:tyA Tryz.prog 56 2=true:=by kernel_rfl
theorem tS56:tyS Tryz.prog 56 2=true:=by kernel_rfl
theorem tF56_1:tyF Tryz.prog 56 1 1=true:=by kernel_rfl
theorem fOk82:fnOk Tryz.prog 82=true:=by kernel_rfl
theorem fOk50:fnOk Tryz.prog 50=true:=by kernel_rfl
theorem tC103:tyC Tryz.prog 103=true:=by kernel_rfl
theorem tF56_0:tyF Tryz.prog 56 0 0=true:=by kernel_rfl
theorem fOk49:fnOk Tryz.prog 49=true:=by kernel_rfl
theorem fOk80:fnOk Tryz.prog 80=true:=by kernel_rfl
theorem fOk48:fnOk Tryz.prog 48=true:=by kernel_rfl
theorem tS106:tyS Tryz.prog 106 1=true:=by kernel_rfl
theorem tA61:tyA Tryz.prog 61 2=true:=by kernel_rfl
theorem tS61:tyS Tryz.prog 61 2=true:=by kernel_rfl
theorem fOk85:fnOk Tryz.prog 85=true:=by kernel_rfl
theorem fOk53:fnOk Tryz.prog 53=true:=by kernel_rfl
theorem tC106:tyC Tryz.prog 106=true:=by kernel_rfl
theorem tF61_0:tyF Tryz.prog 61 0 0=true:=by kernel_rfl
theorem fOk52:fnOk Tryz.prog 52=true:=by kernel_rfl
theorem fOk83:fnOk Tryz.prog 83=true:=by kernel_rfl
theorem fOk51:fnOk Tryz.prog 51=true:=by kernel_rfl
theorem tS109:tyS Tryz.prog 109 1=true:=by kernel_rfl
theorem tA71:tyA Tryz.prog 71 4=true:=by kernel_rfl
theorem tS71:tyS Tryz.prog 71 4=true:=by kernel_rfl
theorem fOk88:fnOk Tryz.prog 88=true:=by kernel_rfl
theorem fOk56:fnOk Tryz.prog 56=true:=by kernel_rfl
theorem tC109:tyC Tryz.prog 109=true:=by kernel_rfl
theorem tF71_0:tyF Tryz.prog 71 0 0=true:=by kernel_rfl
theorem fOk55:fnOk Tryz.prog 55=true:=by kernel_rfl
theorem fOk86:fnOk Tryz.prog 86=true:=by kernel_rfl
theorem fOk54:fnOk Tryz.prog 54=true:=by kernel_rfl
theorem fOk57:fnOk Tryz.prog 57=true:=by kernel_rfl
theorem fOk58:fnOk Tryz.prog 58=true:=by kernel_rfl
theorem fOk59:fnOk Tryz.prog 59=true:=by kernel_rfl
theorem fOk14:fnOk Tryz.prog 14=true:=by kernel_rfl
theorem tZ117:zeroCells Tryz.prog 117=some [.bool false,.map none,.map none,.map none]:=by kernel_rfl
theorem tPl117:tyPlaces Tryz.prog 117=some [(0,1),(1,1),(2,1),(3,1)]:=by kernel_rfl
theorem tS117:tyS Tryz.prog 117 4=true:=by kernel_rfl
theorem tF117_1:tyF Tryz.prog 117 1 1=true:=by kernel_rfl
theorem tC114:tyC Tryz.prog 114=true:=by kernel_rfl
theorem tMap114:tyMap Tryz.prog 114 9 56=true:=by kernel_rfl
theorem tKey9:KeyT Tryz.prog 9 isStr:=keyT_str (by kernel_rfl)
theorem tF117_2:tyF Tryz.prog 117 2 2=true:=by kernel_rfl
theorem tC115:tyC Tryz.prog 115=true:=by kernel_rfl
theorem tMap115:tyMap Tryz.prog 115 9 4=true:=by kernel_rfl
theorem tF117_3:tyF Tryz.prog 117 3 3=true:=by kernel_rfl
theorem tA117:tyA Tryz.prog 117 4=true:=by kernel_rfl
theorem fOk60:fnOk Tryz.prog 60=true:=by kernel_rfl
theorem fOk126:fnOk Tryz.prog 126=true:=by kernel_rfl
theorem fOk125:fnOk Tryz.prog 125=true:=by kernel_rfl
theorem fOk89:fnOk Tryz.prog 89=true:=by kernel_rfl
theorem tF117_0:tyF Tryz.prog 117 0 0=true:=by kernel_rfl
theorem tC4:tyC Tryz.prog 4=true:=by kernel_rfl
theorem tF64_1:tyF Tryz.prog 64 1 1=true:=by kernel_rfl
theorem tZo4:(Tryz.prog.info? 4).bind (·.zero)=some (.bool false):=by kernel_rfl
theorem fOk90:fnOk Tryz.prog 90=true:=by kernel_rfl
theorem tF71_1:tyF Tryz.prog 71 1 1=true:=by kernel_rfl
theorem tSl69:tySl Tryz.prog 69 4=true:=by kernel_rfl
theorem tF74_0:tyF Tryz.prog 74 0 0=true:=by kernel_rfl
theorem tZo56:(Tryz.prog.info? 56).bind (·.zero)=some (.agg #[.string ⟨#[]⟩,.slice none 0 0]):=by kernel_rfl
theorem fOk185:fnOk Tryz.prog 185=true:=by kernel_rfl
theorem fOk169:fnOk Tryz.prog 169=true:=by kernel_rfl
theorem fOk127:fnOk Tryz.prog 127=true:=by kernel_rfl
theorem fOk92:fnOk Tryz.prog 92=true:=by kernel_rfl
theorem fOk91:fnOk Tryz.prog 91=true:=by kernel_rfl
theorem fOk61:fnOk Tryz.prog 61=true:=by kernel_rfl
theorem fOk15:fnOk Tryz.prog 15=true:=by kernel_rfl
theorem fOk5:fnOk Tryz.prog 5=true:=by kernel_rfl
theorem tZ48:zeroCells Tryz.prog 48=some [.slice none 0 0,.slice none 0 0,.slice none 0 0,.slice none 0 0,.string ⟨#[]⟩,.bool false]:=by kernel_rfl
theorem tPl48:tyPlaces Tryz.prog 48=some [(0,4),(4,1),(5,1)]:=by kernel_rfl
theorem tS48:tyS Tryz.prog 48 6=true:=by kernel_rfl
theorem tF48_0:tyF Tryz.prog 48 0 0=true:=by kernel_rfl
theorem tF48_1:tyF Tryz.prog 48 1 4=true:=by kernel_rfl
theorem fOk63:fnOk Tryz.prog 63=true:=by kernel_rfl
theorem fOk17:fnOk Tryz.prog 17=true:=by kernel_rfl
theorem tEl120:tyEl Tryz.prog 120 3 1 8=true:=by kernel_rfl
theorem tZ3:zeroCells Tryz.prog 3=some [.int .i64 0]:=by kernel_rfl
theorem fOk94:fnOk Tryz.prog 94=true:=by kernel_rfl
theorem tIsSl120:tySlice Tryz.prog 120=true:=by kernel_rfl
theorem tSl120:tySl Tryz.prog 120 1=true:=by kernel_rfl
theorem tF48_2:tyF Tryz.prog 48 2 5=true:=by kernel_rfl
theorem tS4:tyS Tryz.prog 4 1=true:=by kernel_rfl
theorem fOk64:fnOk Tryz.prog 64=true:=by kernel_rfl
theorem fOk18:fnOk Tryz.prog 18=true:=by kernel_rfl
theorem fOk19:fnOk Tryz.prog 19=true:=by kernel_rfl
theorem fOk21:fnOk Tryz.prog 21=true:=by kernel_rfl
theorem fOk20:fnOk Tryz.prog 20=true:=by kernel_rfl
theorem tZ124:zeroCells Tryz.prog 124=some [.map none,.map none,.map none]:=by kernel_rfl
theorem tPl124:tyPlaces Tryz.prog 124=some [(0,1),(1,1),(2,1)]:=by kernel_rfl
theorem tS124:tyS Tryz.prog 124 3=true:=by kernel_rfl
theorem tF124_0:tyF Tryz.prog 124 0 0=true:=by kernel_rfl
theorem tC122:tyC Tryz.prog 122=true:=by kernel_rfl
theorem tMap122:tyMap Tryz.prog 122 9 115=true:=by kernel_rfl
theorem tF124_1:tyF Tryz.prog 124 1 1=true:=by kernel_rfl
theorem tF124_2:tyF Tryz.prog 124 2 2=true:=by kernel_rfl
theorem tA124:tyA Tryz.prog 124 3=true:=by kernel_rfl
theorem fOk65:fnOk Tryz.prog 65=true:=by kernel_rfl
theorem tZ127:zeroCells Tryz.prog 127=some [.slice none 0 0,.slice none 0 0,.slice none 0 0,.slice none 0 0,.map none,.map none,.map none,.bool false]:=by kernel_rfl
theorem tPl127:tyPlaces Tryz.prog 127=some [(0,4),(4,3),(7,1)]:=by kernel_rfl
theorem tS127:tyS Tryz.prog 127 8=true:=by kernel_rfl
theorem tF127_0:tyF Tryz.prog 127 0 0=true:=by kernel_rfl
theorem tA127:tyA Tryz.prog 127 8=true:=by kernel_rfl
theorem fOk132:fnOk Tryz.prog 132=true:=by kernel_rfl
theorem fOk98:fnOk Tryz.prog 98=true:=by kernel_rfl
theorem fOk95:fnOk Tryz.prog 95=true:=by kernel_rfl
theorem tF127_2:tyF Tryz.prog 127 2 7=true:=by kernel_rfl
theorem tF127_1:tyF Tryz.prog 127 1 4=true:=by kernel_rfl
theorem fOk96:fnOk Tryz.prog 96=true:=by kernel_rfl
theorem tZo115:(Tryz.prog.info? 115).bind (·.zero)=some (.map none):=by kernel_rfl
theorem fOk133:fnOk Tryz.prog 133=true:=by kernel_rfl
theorem fOk97:fnOk Tryz.prog 97=true:=by kernel_rfl
theorem fOk66:fnOk Tryz.prog 66=true:=by kernel_rfl
theorem fOk22:fnOk Tryz.prog 22=true:=by kernel_rfl
theorem fOk6:fnOk Tryz.prog 6=true:=by kernel_rfl
theorem fOk24:fnOk Tryz.prog 24=true:=by kernel_rfl
theorem fOk23:fnOk Tryz.prog 23=true:=by kernel_rfl
theorem fOk27:fnOk Tryz.prog 27=true:=by kernel_rfl
theorem tEqG64:Tryz.prog.eqGuardType Tryz.prog.depth 64=false:=by kernel_rfl
theorem fOk26:fnOk Tryz.prog 26=true:=by kernel_rfl
theorem fOk25:fnOk Tryz.prog 25=true:=by kernel_rfl
theorem fOk28:fnOk Tryz.prog 28=true:=by kernel_rfl
theorem tEqG74:Tryz.prog.eqGuardType Tryz.prog.depth 74=false:=by kernel_rfl
theorem fOk67:fnOk Tryz.prog 67=true:=by kernel_rfl
theorem fOk30:fnOk Tryz.prog 30=true:=by kernel_rfl
theorem fOk29:fnOk Tryz.prog 29=true:=by kernel_rfl
theorem fOk7:fnOk Tryz.prog 7=true:=by kernel_rfl
theorem fOk8:fnOk Tryz.prog 8=true:=by kernel_rfl
def tt:TT:=[(3,[.S 1,.C,.U,.I .i64]),(4,[.C,.S 1]),(5,[.Fn]),(6,[.Fn]),(7,[.Fn]),(8,[.Fn]),(9,[.Str,.C,.S 1]),(11,[.Fn]),(12,[.Fn]),(16,[.Fn]),(22,[.C,.S 1,.Sn,.Sl 2,.El 56 2 40,.Fn]),(23,[.C,.S 1,.Sn,.Sl 2,.El 61 2 40,.Fn]),(24,[.C,.S 1,.Sn,.Sl 4,.El 71 4 80,.Fn]),(25,[.Sn,.Sl 1,.El 9 1 16,.C,.S 1,.Fn]),(26,[.Fn]),(27,[.Z 4 [.slice none 0 0,.slice none 0 0,.slice none 0 0,.slice none 0 0],.Pl [(0,1),(1,1),(2,1),(3,1)],.S 4,.A 4,.F 0 0,.F 1 1,.F 2 2,.F 3 3,.Fn]),(28,[.Fn]),(29,[.Fn]),(30,[.Fn]),(39,[.Z 5 [.slice none 0 0,.slice none 0 0,.slice none 0 0,.slice none 0 0,.int .i64 0],.Pl [(0,4),(4,1)],.S 5,.F 1 4,.F 0 0]),(41,[.Fn]),(42,[.Fn]),(44,[.Fn]),(47,[.Fn]),(48,[.Fn,.Z 6 [.slice none 0 0,.slice none 0 0,.slice none 0 0,.slice none 0 0,.string ⟨#[]⟩,.bool false],.Pl [(0,4),(4,1),(5,1)],.S 6,.F 0 0,.F 1 4,.F 2 5]),(49,[.Fn]),(50,[.Fn]),(51,[.Fn]),(52,[.Fn]),(53,[.Fn]),(54,[.Fn]),(55,[.Fn]),(56,[.Z 2 [.string ⟨#[]⟩,.slice none 0 0],.Pl [(0,1),(1,1)],.A 2,.S 2,.F 1 1,.F 0 0,.Fn]),(57,[.Fn]),(58,[.Fn]),(59,[.Sn,.Sl 2,.C,.El 64 2 32,.S 1,.Fn]),(60,[.Fn]),(61,[.Z 2 [.string ⟨#[]⟩,.slice none 0 0],.Pl [(0,1),(1,1)],.F 1 1,.A 2,.S 2,.F 0 0,.Fn]),(64,[.Z 2 [.string ⟨#[]⟩,.string ⟨#[]⟩],.Pl [(0,1),(1,1)],.A 2,.S 2,.F 0 0,.F 1 1]),(65,[.Fn]),(66,[.Fn]),(67,[.Fn]),(69,[.C,.El 74 4 56,.Sn,.S 1,.Sl 4]),(71,[.Z 4 [.string ⟨#[]⟩,.string ⟨#[]⟩,.slice none 0 0,.slice none 0 0],.Pl [(0,1),(1,1),(2,1),(3,1)],.F 3 3,.F 2 2,.A 4,.S 4,.F 0 0,.F 1 1]),(74,[.Z 4 [.int .i64 0,.string ⟨#[]⟩,.string ⟨#[]⟩,.string ⟨#[]⟩],.Pl [(0,1),(1,1),(2,1),(3,1)],.S 4,.F 3 3,.A 4,.F 1 1,.F 2 2,.F 0 0]),(75,[.Fn]),(77,[.Fn]),(82,[.Fn]),(85,[.Fn]),(88,[.Fn]),(89,[.Fn]),(90,[.Fn]),(91,[.Fn]),(92,[.Fn]),(95,[.Fn]),(96,[.Fn]),(97,[.Fn]),(98,[.Fn]),(103,[.S 1,.C]),(106,[.S 1,.C]),(109,[.S 1,.C]),(114,[.C]),(115,[.C]),(117,[.Z 4 [.bool false,.map none,.map none,.map none],.Pl [(0,1),(1,1),(2,1),(3,1)],.S 4,.F 1 1,.F 2 2,.F 3 3,.A 4,.F 0 0]),(120,[.Sn,.Sl 1]),(122,[.C]),(124,[.Z 3 [.map none,.map none,.map none],.Pl [(0,1),(1,1),(2,1)],.S 3,.F 0 0,.F 1 1,.F 2 2,.A 3]),(125,[.Fn]),(126,[.Fn]),(127,[.Fn,.Z 8 [.slice none 0 0,.slice none 0 0,.slice none 0 0,.slice none 0 0,.map none,.map none,.map none,.bool false],.Pl [(0,4),(4,3),(7,1)],.S 8,.F 0 0,.A 8,.F 2 7,.F 1 4]),(132,[.Fn]),(133,[.Fn]),(149,[.I .u64,.U]),(169,[.Fn]),(185,[.Fn])]
theorem ok:TTok Tryz.prog tt:=tt_all ⟨⟨tS3,tC3,tUn3,tI3,trivial⟩,⟨tC4,tS4,trivial⟩,⟨fOk5,trivial⟩,⟨fOk6,trivial⟩,⟨fOk7,trivial⟩,⟨fOk8,trivial⟩,⟨tStr9,tC9,tS9,trivial⟩,⟨fOk11,trivial⟩,⟨fOk12,trivial⟩,⟨fOk16,trivial⟩,⟨tC22,tS22,tIsSl22,tSl22,tEl22,fOk22,trivial⟩,⟨tC23,tS23,tIsSl23,tSl23,tEl23,fOk23,trivial⟩,⟨tC24,tS24,tIsSl24,tSl24,tEl24,fOk24,trivial⟩,⟨tIsSl25,tSl25,tEl25,tC25,tS25,fOk25,trivial⟩,⟨fOk26,trivial⟩,⟨⟨tZ27,rfl⟩,tPl27,tS27,tA27,tF27_0,tF27_1,tF27_2,tF27_3,fOk27,trivial⟩,⟨fOk28,trivial⟩,⟨fOk29,trivial⟩,⟨fOk30,trivial⟩,⟨⟨tZ39,rfl⟩,tPl39,tS39,tF39_1,tF39_0,trivial⟩,⟨fOk41,trivial⟩,⟨fOk42,trivial⟩,⟨fOk44,trivial⟩,⟨fOk47,trivial⟩,⟨fOk48,⟨tZ48,rfl⟩,tPl48,tS48,tF48_0,tF48_1,tF48_2,trivial⟩,⟨fOk49,trivial⟩,⟨fOk50,trivial⟩,⟨fOk51,trivial⟩,⟨fOk52,trivial⟩,⟨fOk53,trivial⟩,⟨fOk54,trivial⟩,⟨fOk55,trivial⟩,⟨⟨tZ56,rfl⟩,tPl56,tA56,tS56,tF56_1,tF56_0,fOk56,trivial⟩,⟨fOk57,trivial⟩,⟨fOk58,trivial⟩,⟨tIsSl59,tSl59,tC59,tEl59,tS59,fOk59,trivial⟩,⟨fOk60,trivial⟩,⟨⟨tZ61,rfl⟩,tPl61,tF61_1,tA61,tS61,tF61_0,fOk61,trivial⟩,⟨⟨tZ64,rfl⟩,tPl64,tA64,tS64,tF64_0,tF64_1,trivial⟩,⟨fOk65,trivial⟩,⟨fOk66,trivial⟩,⟨fOk67,trivial⟩,⟨tC69,tEl69,tIsSl69,tS69,tSl69,trivial⟩,⟨⟨tZ71,rfl⟩,tPl71,tF71_3,tF71_2,tA71,tS71,tF71_0,tF71_1,trivial⟩,⟨⟨tZ74,rfl⟩,tPl74,tS74,tF74_3,tA74,tF74_1,tF74_2,tF74_0,trivial⟩,⟨fOk75,trivial⟩,⟨fOk77,trivial⟩,⟨fOk82,trivial⟩,⟨fOk85,trivial⟩,⟨fOk88,trivial⟩,⟨fOk89,trivial⟩,⟨fOk90,trivial⟩,⟨fOk91,trivial⟩,⟨fOk92,trivial⟩,⟨fOk95,trivial⟩,⟨fOk96,trivial⟩,⟨fOk97,trivial⟩,⟨fOk98,trivial⟩,⟨tS103,tC103,trivial⟩,⟨tS106,tC106,trivial⟩,⟨tS109,tC109,trivial⟩,⟨tC114,trivial⟩,⟨tC115,trivial⟩,⟨⟨tZ117,rfl⟩,tPl117,tS117,tF117_1,tF117_2,tF117_3,tA117,tF117_0,trivial⟩,⟨tIsSl120,tSl120,trivial⟩,⟨tC122,trivial⟩,⟨⟨tZ124,rfl⟩,tPl124,tS124,tF124_0,tF124_1,tF124_2,tA124,trivial⟩,⟨fOk125,trivial⟩,⟨fOk126,trivial⟩,⟨fOk127,⟨tZ127,rfl⟩,tPl127,tS127,tF127_0,tA127,tF127_2,tF127_1,trivial⟩,⟨fOk132,trivial⟩,⟨fOk133,trivial⟩,⟨tI149,tUn149,trivial⟩,⟨fOk169,trivial⟩,⟨fOk185,trivial⟩,trivial⟩
instance {N:Nat} {w:World} {m:Mem} {o:Nat->Prop} {p:Nat} {l:Nat->Option (Option (Nat×Cap))} {g:Gl} {h:GlOk g m}:TC ⟨Tryz.prog,N,w,m,o,p,l,g,h⟩ tt:=⟨ok⟩
end Go.Proofs.YtjofofmllnpkpaaGreatDoor
namespace Go.Pv
open Go Go.ChangeShapes Go.WideShapes
mutual
def bulk{H:Type}:DataW H->Nat
 | .lit (.string bytes)=>bytes.length+1
 | .lit _=>1
 | .nil=>1
 | .ptr d=>bulk d+1
 | .slice elems spare=>bulkAll elems+bulkAll spare+1
 | .agg parts=>bulkAll parts+1
 | .iface _ d=>bulk d+1
 | .map entries=>bulkEnts entries+1
 | .held _=>1
def bulkAll{H:Type}:List (DataW H)->Nat
 |[]=>0
 |d::r=>bulk d+bulkAll r
def bulkEnts{H:Type}:List (Lit×DataW H)->Nat
 |[]=>0
 |x::r=>bulkEnt x+bulkEnts r
def bulkEnt{H:Type}:Lit×DataW H->Nat
 |(.string bytes,d)=>bytes.length+bulk d+1
 |(_,d)=>bulk d+1
end
def memOf(w:World):Mem:=fun b=>w.heap[b]?
def IRelL(m:Mem)(ds:List V)(cs:List Value):Prop:=
 ds.length=cs.length/\∀(i:Nat) (c:V) (v:Value),ds[i]? = some c->cs[i]? = some v->IRel m c v
theorem IRelL.one{m:Mem}{d:V}{c:Value}(h:IRel m d c):IRelL m [d] [c]:=
 ⟨rfl,fun i d' c' hd hc=>by
  match i with
  |0=>simp at hd hc;subst hd;subst hc;exact h
  |_+1=>simp at hd⟩
theorem IRelL.app{m:Mem}{a b:List V}{x y:List Value}(h:IRelL m a x)(h':IRelL m b y):IRelL m (a++b) (x++y):=by
 refine⟨by simp[h.1,h'.1],fun i c v hc hv=>?_⟩
 by_cases hi:i<a.length
 ·rw[List.getElem?_append_left hi] at hc
  rw[List.getElem?_append_left (by rw[<-h.1];exact hi)] at hv
  exact h.2 i c v hc hv
 ·rw[List.getElem?_append_right (by omega)] at hc
  rw[List.getElem?_append_right (by rw[<-h.1];omega),<-h.1] at hv
  exact h'.2 _ c v hc hv
section
variable{P:Program}{t e:TypeId}{α β:Type}
def wOk{H:Type}(P:Program)(t:TypeId)(d:DataW H):Prop:=(d.weights P t).all (·<=reachBytes)=true
def wOks{H:Type}(P:Program)(ts:List TypeId)(ds:List (DataW H)):Prop:=(DataW.weightsEach P ts ds).all (·<=reachBytes)=true
theorem wOks_cons{H:Type}{P:Program}{t:TypeId}{ts:List TypeId}{d:DataW H}{ds:List (DataW H)}(h:wOks P (t::ts) (d::ds)):wOk P t d/\wOks P ts ds:=by
 unfold wOks wOk at *
 rw[DataW.weightsEach,List.all_append,Bool.and_eq_true] at h
 exact h
def Opens(P:Program)(t:TypeId)(e:α->List V)(sz:α->Nat)(ok:α->Prop):Prop:=
 ∀{H:Type} (enc:TypeId×Value->H) (w:World) (fuel:Nat) (cs:List Value) (x:DataW H×List MemPlace),
  DataW.trod enc P w 0 (fun _=>true) true fuel t cs=some x->wOk P t x.1->∃a:α,IRelL (memOf w) (e a) cs/\sz a<=bulk x.1/\ok a
theorem opens_string(ht:P.underlying t=some .string):Opens P t (fun s:List UInt8=>[sV s]) (fun s=>s.length+1) (fun s=>s.length<=maxLen):=by
 intro H enc w fuel cs x h hw
 obtain⟨s,rfl,rfl,hs⟩:=DataW.trod_string ht h
 refine⟨s.data.toList,IRelL.one ?_,by simp[bulk],by simpa using hs⟩
 have:str s.data.toList=.string s:=by simp[str]
 unfold sV
 rw[this]
 exact .con _
def fieldsOf(P:Program)(t:TypeId):Option (List (TypeId×Nat×Nat)):=
 match P.underlying t with
 |some (.struct fs)=>some (fs.toList.map fun f=>(f.type,f.offset,P.cellsOf f.type))
 |_=>none
def OpensV(P:Program)(t:TypeId)(e:α->V)(sz:α->Nat)(ok:α->Prop):Prop:=
 ∀{H:Type} (enc:TypeId×Value->H) (w:World) (base:Nat) (v:Value) (d:DataW H) (p:List MemPlace),
  Value.okWide P w .any base t v->DataW.Trod enc P w 0 (fun _=>true) true t v d p->wOk P t d->∃a:α,IRel (memOf w) (e a) v/\sz a<=bulk d/\ok a
def cellKind(P:Program)(t:TypeId):Bool:=
 match P.underlying t with
 |some (.int _)|some .bool|some .string|some (.slice _)=>true
 |_=>false
theorem opensV_cell{e:α->V}{sz:α->Nat}{ok:α->Prop}(ht:cellKind P t=true)(h:Opens P t (fun a=>[e a]) sz ok):OpensV P t e sz ok:=by
 intro H enc w base v d p hv ⟨n,hd⟩ hw
 obtain⟨a,h1,h2,h3⟩:=h enc w n _ _ hd hw
 have hna:∀cs,v≠.agg cs:=by
  rintro cs rfl
  unfold cellKind at ht
  unfold Value.okWide at hv
  split at ht<;>rename_i hu<;>first|exact absurd ht (by decide)|(simp only[hu,Cell.okWide,Cell.ok] at hv)
 have hc:v.cells.toList=[v]:=by cases v<;>first|rfl|exact absurd rfl (hna _)
 rw[hc] at h1
 exact⟨a,h1.2 0 _ _ rfl rfl,h2,h3⟩
theorem sameAt_of{w w':World}(h:∀b,b<w.heap.size->w'.heap[b]? = w.heap[b]?){p:MemPlace}(hp:p.block<w.heap.size):w.sameAt w' p:=by
 cases p with
 |cell b o=>simp only[World.sameAt,World.cell?];rw[h b hp]
 |map b=>exact h b hp
theorem trodAll_stays{H:Type}{enc:TypeId×Value->H}(hl:laidOutB P=true){w w':World}{sp:Nat->Bool}(hh:∀b,b<w.heap.size->w'.heap[b]? = w.heap[b]?)
  (hs:∀b,b<w.heap.size->sp b=true):∀{ts:List TypeId} {vs:List Value} {ds:List (DataW H)} {ps:List MemPlace},
  (ts.all fun t=>P.readableRec t&&decide (t<P.types.size))=true->DataW.TrodAll enc P w 0 (fun _=>true) true ts vs ds ps->(∀p∈ps,p.block<w.heap.size)->DataW.TrodAll enc P w' 0 sp true ts vs ds ps
 |[],[],[],_,_,h,_=>h
 |t::ts,v::vs,d::ds,_,hr,⟨p,q,h1,h2,e⟩,hlt=>by
  subst e
  simp only[List.all_cons,Bool.and_eq_true,decide_eq_true_eq] at hr
  exact⟨p,q,WideElems.Trod_stays hl hr.1.1 hr.1.2 h1 (fun x hx=>sameAt_of hh (hlt x (List.mem_append_left _ hx))) (fun x hx=>hs _ (hlt x (List.mem_append_left _ hx))),
   trodAll_stays hl hh hs (by simpa using hr.2) h2 (fun x hx=>hlt x (List.mem_append_right _ hx)),rfl⟩
theorem kept_of{w w':World}(hs:Same w w')(hh:∀b,b<w.heap.size->w'.heap[b]? = w.heap[b]?)(may:MemPlace->Prop):w.keptBut w' may:=by
 refine⟨hs.os,hs.output,fun i hi=>?_⟩
 rw[hh i hi]
 split<;>first|exact⟨rfl,rfl,rfl,fun _ _=>rfl⟩|exact .inr ⟨rfl,rfl⟩|rfl|skip
 all_goals simp_all
theorem law_post{H:Type}{enc:TypeId×Value->H}{f:Func}{s:ChangeSpec}{apart fresh handsOn:Bool}{w w':World}{args:Array Value}{v:Value}{ds gs:List (DataW H)}{before:List MemPlace}{m m':Mem}{tb:TypeId}
  (hl:laidOutB P=true) (hts:(f.params.toList.all fun t=>P.readableRec t&&decide (t<P.types.size))=true) (hv:s.vars=[]) (hfn:∀gs',gs'=[]->s.fn H (ds++gs')={ results:=[.lit (.bool true)],args:=ds })
  (hres:f.resultTypes=#[tb]) (hb:P.underlying tb=some .bool) (hW:DataW.Whole enc P f.params.toList s.vars apart w args.toList ds gs before) (h:IRel m' (bV true) v) (hg:Grew m m' w w'):
  s.post enc P f apart fresh handsOn false w args v w':=by
 have hW0:=hW
 obtain⟨p,q,hA,hV,rfl,hfz,hnd⟩:=hW0
 cases h
 rw[hv] at hV
 cases gs with
 |cons _ _=>simp[DataW.TrodVars] at hV
 |nil=>
 have hq:q=[]:=hV
 subst hq
 refine⟨ds,[],p++[],[],p,[],hW,?_,?_,?_,kept_of hg.same hg.heap _,fun h=>by simp at h⟩
 ·rw[hfn _ rfl,hres]
  exact trodAll_cons_mk (RowKit.shut_bool hb _) trodAll_mk0
 ·rw[hfn _ rfl]
  exact trodAll_stays hl hg.heap (fun b hb=>by simpa using hb) hts hA (DataW.TrodAll.lt hA)
 ·rw[hv,hfn _ rfl]
  rfl
theorem args_nil{H:Type}{enc:TypeId×Value->H}{w:World}{args:Array Value}{f:Func}{s:ChangeSpec}{apart:Bool}{ds gs:List (DataW H)}{before:List MemPlace}
  (hW:DataW.Whole enc P f.params.toList s.vars apart w args.toList ds gs before):∃p,DataW.TrodAll enc P w 0 (fun _=>true) true f.params.toList args.toList ds p:=by
 obtain⟨p,q,hA,_⟩:=hW
 exact⟨p,hA⟩
end
def factsA(P:Program)(f:FuncId)(fn:Func)(s:ChangeSpec)(c:OpenClaim):Bool:=
 c.wf (OpenSpec.ofChange s)&&laidOutB P&&mapsRowed P &&
 fn.params.all (P.readableRec ·)&&namedTie P c.named s.vars &&
 (c.stops==[])&&(P.stops==[])&&(c.knobs==[])&&(P.stopKnobs==[]) &&
 (c.inPlace==P.inPlace f)&&(c.unfollowed==P.unfollowed f)&&(c.recurses==P.recurses f)&&(c.named==P.varsNamed f) &&
 (c.maps==(fn.params.toList++s.plain.varTypes P).any (P.mapsRec ·))&&(c.ifaces==(fn.params.toList++s.plain.varTypes P).any (P.ifacesRec ·))&&(c.mapsOut==P.mapsAmong fn.resultTypes.toList) &&
 (c.loops==(fn.params.toList++s.plain.varTypes P).any (P.loopsFrom ·))&&(c.wideKeys==(fn.params.toList++s.plain.varTypes P++fn.resultTypes.toList).any (P.wideKeysFrom ·)) &&
 s.vars.all (P.varReadable ·)&&fn.resultTypes.all (fun t=>P.readableRec t&&decide (t<P.types.size))&&(c.ifacesOut==fn.resultTypes.toList.any (P.ifacesRec ·))&&(c.loopsOut==fn.resultTypes.toList.any (P.loopsFrom ·))&&(c.plainKeys==P.plainKeys)&&c.shortTexts.isNone&&P.stopsHeard
def factsB(P:Program)(c:OpenClaim):Bool:=P.mayEnter&&(c.lifted==P.liftsFinal)&&(P.make==some c.make)
def factsC(P:Program)(fn:Func)(s:ChangeSpec)(c:OpenClaim):Bool:=
 (c.kinds==(if c.domain.isEmpty then [] else fn.params.toList.map fun t=>match P.underlying t with|some (.int k)=>some k|_=>none))&&(c.pinned==c.pinnedBy) &&
 (c.veiled==(fn.params.toList++s.plain.varTypes P++fn.resultTypes.toList).any (P.veiledRec ·))&&c.veiledFits P fn.params.toList (fn.params.toList++s.plain.varTypes P++fn.resultTypes.toList)
theorem facts_join{P:Program}{f:FuncId}{fn:Func}{s:ChangeSpec}{c:OpenClaim}(h1:factsA P f fn s c=true)(h2:factsB P c=true)(h3:factsC P fn s c=true):joinedFacts P f fn s c=true:=by
 unfold factsA at h1
 unfold factsB at h2
 unfold factsC at h3
 have e:∀a b c d b1 b2 b3 c1 c2 c3:Bool,a=true->(b1&&b2&&b3)=true->(b&&c&&d&&c1)=true->(a&&b1&&b2&&b3&&b&&c&&d&&c1)=true:=by
  intro a b c d b1 b2 b3 c1 c2 c3 h h' h''
  simp only[Bool.and_eq_true] at *
  simp_all
 exact e _ _ _ _ _ _ _ _ true true h1 h2 h3
end Go.Pv
namespace Go.Proofs.YtjofofmllnpkpaaGreatDoor
open Go Go.Pv
set_option linter.unusedVariables false
set_option maxRecDepth 100000
theorem opens_9:Opens Tryz.prog 9 (fun x=>[sV x]) (fun x:(List UInt8)=>(x.length+1)) (fun x:(List UInt8)=>(x.length<=maxLen)):=opens_string (show Tryz.prog.underlying 9=some (.string) by kernel_rfl)
theorem opensV_9:OpensV Tryz.prog 9 (fun x=>sV x) (fun x:(List UInt8)=>(x.length+1)) (fun x:(List UInt8)=>(x.length<=maxLen)):=opensV_cell (by kernel_rfl) opens_9
def okTIface(x:TIface):Prop:=(x.Name.length<=maxLen)/\(((∀a,a∈x.Methods->(fun x:(List UInt8)=>(x.length<=maxLen)) a)/\x.Methods.length<=maxLen)/\True)
def okTMethod(x:TMethod):Prop:=(x.Name.length<=maxLen)/\((x.Func.length<=maxLen)/\True)
def okTType(x:TType):Prop:=(x.Name.length<=maxLen)/\(((∀a,a∈x.Methods->(fun x:TMethod=>(okTMethod x)) a)/\x.Methods.length<=maxLen)/\True)
def okTCall(x:TCall):Prop:=((IntKind.i64).min<=x.Kind/\x.Kind<=(IntKind.i64).max)/\((x.Target.length<=maxLen)/\((x.Method.length<=maxLen)/\((x.Feature.length<=maxLen)/\True)))
def okTFunc(x:TFunc):Prop:=(x.Name.length<=maxLen)/\((x.Component.length<=maxLen)/\(((∀a,a∈x.Calls->(fun x:TCall=>(okTCall x)) a)/\x.Calls.length<=maxLen)/\(((∀a,a∈x.Makes->(fun x:(List UInt8)=>(x.length<=maxLen)) a)/\x.Makes.length<=maxLen)/\True)))
def okTGraph(x:TGraph):Prop:=((∀a,a∈x.Ifaces->(fun x:TIface=>(okTIface x)) a)/\x.Ifaces.length<=maxLen)/\(((∀a,a∈x.Types->(fun x:TType=>(okTType x)) a)/\x.Types.length<=maxLen)/\(((∀a,a∈x.Funcs->(fun x:TFunc=>(okTFunc x)) a)/\x.Funcs.length<=maxLen)/\(((∀a,a∈x.Entries->(fun x:(List UInt8)=>(x.length<=maxLen)) a)/\x.Entries.length<=maxLen)/\True)))
end Go.Proofs.YtjofofmllnpkpaaGreatDoor
