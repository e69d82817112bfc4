/- Part of the proof: UQ4, R4Sh, EI. -/
import Derived.Test.YtjofofmllnpkpaaGreatDoorSUQ3
import Derived.Shelf.Strings.Builder1
import Derived.Shelf.Strings.Builder2
import Derived.Shelf.Strings.OnBuilder
import Derived.Shelf.Strings.BuilderF
import Derived.Shelf.Strings.BuilderK
import Derived.Shelf.Strconv.Itoa0
import Derived.Shelf.Strings.Search1
import Derived.Shelf.Strings.Search2
import Derived.Shelf.Strings.Search3
import Derived.Shelf.Strings.Cut
import Derived.Shelf.Strings.Count
import Derived.Shelf.LaysM
import Derived.Shelf.Strings.Shaped
import Derived.Shelf.Sort.Plain
import Derived.Shelf.Strings.Split
import Derived.Shelf.Strings.SplitShaped
import Derived.Shelf.Unicode.Decode
import Derived.Shelf.Strings.RuneCount
import Derived.Shelf.Strings.Explode
import Derived.Shelf.Unicode.DecodeSlow
import Derived.Shelf.Unicode.DecodeAny
import Derived.Shelf.Slices.In.SortNone
import Derived.Ground.SlsfProg
import Derived.Shelf.SlSortCmp.WholeK
import Derived.Shelf.SlSortCmp.NoneTotal
import Derived.Test.YtjofofmllnpkpaaGreatDoorProg
import Derived.Test.YtjofofmllnpkpaaGreatDoorSDM
import Derived.Test.YtjofofmllnpkpaaGreatDoorSWA
namespace Go.Proofs.YtjofofmllnpkpaaGreatDoor
open Go Go.Pv
set_option linter.unusedVariables false
set_option linter.unusedSimpArgs false
set_option maxRecDepth 100000
theorem cut_miss{c:UInt8}{s:Tx}(h:c ∉ s):(Lib.cut s [c]).1=s:=by
 unfold Lib.cut
 rw[index_miss h]
 simp
theorem prt_line{ws:List Tx}(h:OkW ws):prt (lineOf ws)=ws:=by
 unfold prt
 rw[cut_miss (show(35:UInt8) ∉ lineOf ws from not_mem_join (by decide) (fun x hx=>(h.ok x hx).ha))]
 obtain⟨w,r,rfl⟩:=List.exists_cons_of_ne_nil h.ne
 unfold lineOf
 rw[split_join (fun x hx=>(h.ok x hx).sp)]
 rw[List.filter_eq_self]
 intro x hx
 simpa using (h.ok x hx).ne
theorem runS_app{l1 l2:List Tx}:∀{i:Nat} {q q':Sto},runS l1 i q=.inr q'->runS (l1++l2) i q=runS l2 (i+l1.length) q':=by
 induction l1 with
 |nil=>intro i q q' h;cases h;rfl
 |cons x l ih=>
  intro i q q' h
  rw[List.cons_append,List.length_cons,show i+(l.length+1)=i+1+l.length by omega]
  rw[runS.eq_def] at h ⊢
  simp only[] at h ⊢
  split at h
  ·exact ih h
  ·split at h
   ·exact ih h
   ·cases h
theorem runS_one{ws:List Tx}{l:List Tx}{i:Nat}{q q':Sto}(h:OkW ws)(e:lineS ws q=some q'):runS (lineOf ws::l) i q=runS l (i+1) q':=by
 rw[runS.eq_def]
 simp only[]
 rw[prt_line h]
 obtain⟨w,r,rfl⟩:=List.exists_cons_of_ne_nil h.ne
 simp only[]
 rw[e]
theorem lstU_snoc{α:Type}(l:List α)(x:α)(f:α->α)(h:l.length<=1000000):lstU (l++[x]) f=l++[f x]:=by
 have e:w64 (((l++[x]).length:Int) - 1)=(l.length:Int):=by
  rw[w64m (by simp) (by simp;omega)];simp
 unfold lstU
 rw[e,idx_nat (by simp)]
 simp
theorem run_I:∀(l:List TIface) (i:Nat) (of:Int) (I:List TIface) (T:List TType) (G:List TFunc) (E:List Tx),(∀x,x∈l->OkW (wdI x))->∃of',runS ((l.map wdI).map lineOf) i (of,I,T,G,E)=.inr (of',I++l,T,G,E)
 |[],i,of,I,T,G,E,_=>⟨of,by simp[runS]⟩
 |x::l,i,of,I,T,G,E,h=>by
  obtain⟨of',e⟩:=run_I l (i+1) 0 (I++[x]) T G E (fun z hz=>h z (List.mem_cons_of_mem _ hz))
  refine⟨of',?_⟩
  rw[List.map_cons,List.map_cons,runS_one (q':=(0,I++[x],T,G,E)) (h x (List.mem_cons_self ..)) (by unfold wdI;rw[lS_iface]),e]
  simp
theorem run_M(I:List TIface)(T:List TType)(G:List TFunc)(E:List Tx)(n:Tx)(hT:T.length<=1000000):∀(ms done:List TMethod) (i:Nat),(∀m,m∈ms->OkW (wdM m))->runS ((ms.map wdM).map lineOf) i (1,I,T++[TType.mk n done],G,E)=.inr (1,I,T++[TType.mk n (done++ms)],G,E)
 |[],done,i,_=>by simp[runS]
 |m::ms,done,i,h=>by
  rw[List.map_cons,List.map_cons,runS_one (q':=(1,I,T++[TType.mk n (done++[m])],G,E)) (h m (List.mem_cons_self ..)) (by unfold wdM;rw[lS_method];simp only[if_true];rw[lstU_snoc _ _ _ hT]),
   run_M I T G E n hT ms (done++[m]) (i+1) (fun z hz=>h z (List.mem_cons_of_mem _ hz))]
  simp
theorem run_T1(t:TType)(i:Nat)(of:Int)(I:List TIface)(T:List TType)(G:List TFunc)(E:List Tx)(hT:T.length<=1000000)(h:∀w,w∈tyL t->OkW w):runS ((tyL t).map lineOf) i (of,I,T,G,E)=.inr (1,I,T++[t],G,E):=by
 unfold tyL
 rw[List.map_cons,runS_one (q':=(1,I,T++[TType.mk t.Name []],G,E)) (h (wdT t) (List.mem_cons_self ..)) (by unfold wdT;rw[lS_type]),
  run_M I T G E t.Name hT t.Methods [] (i+1) (fun m hm=>h (wdM m) (List.mem_cons_of_mem _ (List.mem_map.2 ⟨m,hm,rfl⟩)))]
 rfl
theorem run_T:∀(l:List TType) (i:Nat) (of:Int) (I:List TIface) (T:List TType) (G:List TFunc) (E:List Tx),(∀x,x∈l->∀w,w∈tyL x->OkW w)->T.length+l.length<=1000000->∃of',runS ((l.flatMap tyL).map lineOf) i (of,I,T,G,E)=.inr (of',I,T++l,G,E)
 |[],i,of,I,T,G,E,_,_=>⟨of,by simp[runS]⟩
 |x::l,i,of,I,T,G,E,h,hl=>by
  simp only[List.length_cons] at hl
  have e1:=run_T1 x i of I T G E (by omega) (h x (List.mem_cons_self ..))
  obtain⟨of',e⟩:=run_T l (i+((tyL x).map lineOf).length) 1 I (T++[x]) G E (fun z hz=>h z (List.mem_cons_of_mem _ hz)) (by simp;omega)
  refine⟨of',?_⟩
  rw[List.flatMap_cons,List.map_append,runS_app e1,e]
  simp
theorem run_K(I:List TIface)(T:List TType)(G:List TFunc)(E:List Tx)(n c:Tx)(cs:List TCall)(hG:G.length<=1000000):∀(ms done:List Tx) (i:Nat),(∀m,m∈ms->OkW (wdK m))->runS ((ms.map wdK).map lineOf) i (2,I,T,G++[TFunc.mk n c cs done],E)=.inr (2,I,T,G++[TFunc.mk n c cs (done++ms)],E)
 |[],done,i,_=>by simp[runS]
 |m::ms,done,i,h=>by
  rw[List.map_cons,List.map_cons,runS_one (q':=(2,I,T,G++[TFunc.mk n c cs (done++[m])],E)) (h m (List.mem_cons_self ..)) (by unfold wdK;rw[lS_makes];simp only[if_true];rw[lstU_snoc _ _ _ hG]),
   run_K I T G E n c cs hG ms (done++[m]) (i+1) (fun z hz=>h z (List.mem_cons_of_mem _ hz))]
  simp
theorem line_C(I:List TIface)(T:List TType)(G:List TFunc)(E:List Tx)(c:TCall)(hk:c.Kind=1/\c.Method=[]\/c.Kind=2):lineS (wdC c) (2,I,T,G,E)=some (2,I,T,lstU G (fun x=>{ x with Calls:=x.Calls++[c] }),E):=by
 obtain⟨k,t,m,f⟩:=c
 simp only at hk
 unfold wdC
 simp only[]
 rcases hk with ⟨rfl,rfl⟩|rfl
 ·rw[if_neg (by decide)]
  by_cases e:f=[]
  ·subst e
   rw[if_pos rfl,List.append_nil,lS_call,if_pos rfl];rfl
  ·rw[if_neg e,show([sCall,t]++[sIf,f]:List Tx)=sCall::[t,sIf,f] from rfl,lS_call,if_pos rfl];rfl
 ·rw[if_pos rfl]
  by_cases e:f=[]
  ·subst e
   rw[if_pos rfl,List.append_nil,lS_disp,if_pos rfl];rfl
  ·rw[if_neg e,show([sDisp,t,m]++[sIf,f]:List Tx)=sDisp::[t,m,sIf,f] from rfl,lS_disp,if_pos rfl];rfl
theorem run_C(I:List TIface)(T:List TType)(G:List TFunc)(E:List Tx)(n c:Tx)(hG:G.length<=1000000):∀(ms done:List TCall) (i:Nat),(∀m,m∈ms->OkW (wdC m)/\(m.Kind=1/\m.Method=[]\/m.Kind=2))->runS ((ms.map wdC).map lineOf) i (2,I,T,G++[TFunc.mk n c done []],E)=.inr (2,I,T,G++[TFunc.mk n c (done++ms) []],E)
 |[],done,i,_=>by simp[runS]
 |m::ms,done,i,h=>by
  have hm:=h m (List.mem_cons_self ..)
  rw[List.map_cons,List.map_cons,runS_one (q':=(2,I,T,G++[TFunc.mk n c (done++[m]) []],E)) hm.1 (by rw[line_C I T _ E m hm.2,lstU_snoc _ _ _ hG]),
   run_C I T G E n c hG ms (done++[m]) (i+1) (fun z hz=>h z (List.mem_cons_of_mem _ hz))]
  simp
theorem run_F1{g:TGraph}(R:RightG g)(t:TFunc)(ht:t∈g.Funcs)(i:Nat)(of:Int)(I:List TIface)(T:List TType)(G:List TFunc)(E:List Tx)(hG:G.length<=1000000):runS ((fnL t).map lineOf) i (of,I,T,G,E)=.inr (2,I,T,G++[t],E):=by
 unfold fnL
 rw[List.map_cons,runS_one (q':=(2,I,T,G++[TFunc.mk t.Name t.Component [] []],E)) (okF R ht) (by unfold wdF;rw[lS_func]),List.map_append,
  runS_app (run_C I T G E t.Name t.Component hG t.Calls [] (i+1) (fun m hm=>okC R ((R.f t ht).calls m hm))),List.nil_append,
  run_K I T G E t.Name t.Component t.Calls hG t.Makes [] _ (fun m hm=>okK R ht hm)]
 rfl
theorem run_F{g:TGraph}(R:RightG g):∀(l:List TFunc) (i:Nat) (of:Int) (I:List TIface) (T:List TType) (G:List TFunc) (E:List Tx),(∀x,x∈l->x∈g.Funcs)->G.length+l.length<=1000000->∃of',runS ((l.flatMap fnL).map lineOf) i (of,I,T,G,E)=.inr (of',I,T,G++l,E)
 |[],i,of,I,T,G,E,_,_=>⟨of,by simp[runS]⟩
 |x::l,i,of,I,T,G,E,h,hl=>by
  simp only[List.length_cons] at hl
  have e1:=run_F1 R x (h x (List.mem_cons_self ..)) i of I T G E (by omega)
  obtain⟨of',e⟩:=run_F R l (i+((fnL x).map lineOf).length) 2 I T (G++[x]) E (fun z hz=>h z (List.mem_cons_of_mem _ hz)) (by simp;omega)
  refine⟨of',?_⟩
  rw[List.flatMap_cons,List.map_append,runS_app e1,e]
  simp
theorem run_E:∀(l:List Tx) (i:Nat) (of:Int) (I:List TIface) (T:List TType) (G:List TFunc) (E:List Tx),(∀x,x∈l->OkW (wdE x))->∃of',runS ((l.map wdE).map lineOf) i (of,I,T,G,E)=.inr (of',I,T,G,E++l)
 |[],i,of,I,T,G,E,_=>⟨of,by simp[runS]⟩
 |x::l,i,of,I,T,G,E,h=>by
  obtain⟨of',e⟩:=run_E l (i+1) 0 I T G (E++[x]) (fun z hz=>h z (List.mem_cons_of_mem _ hz))
  refine⟨of',?_⟩
  rw[List.map_cons,List.map_cons,runS_one (q':=(0,I,T,G,E++[x])) (h x (List.mem_cons_self ..)) (by unfold wdE;rw[lS_entry]),e]
  simp
theorem run_G{g:TGraph}(R:RightG g):∃of,runS (Lib.split (txtL (wdG g)) [10]) 0 (0,[],[],[],[])=.inr (of,g.Ifaces,g.Types,g.Funcs,g.Entries):=by
 unfold txtL
 rw[split_lines (fun l hl=>by
  obtain⟨w,hw,rfl⟩:=List.mem_map.1 hl
  exact not_mem_join (by decide) (fun x hx=>((ok_wG R w hw).ok x hx).nl))]
 unfold wdG
 simp only[List.map_append,List.append_assoc]
 obtain⟨o1,e1⟩:=run_I g.Ifaces 0 0 [] [] [] [] (fun x hx=>okI R hx)
 rw[runS_app e1]
 obtain⟨o2,e2⟩:=run_T g.Types (0+((g.Ifaces.map wdI).map lineOf).length) o1 ([]++g.Ifaces) [] [] [] (fun x hx=>ok_tyL R hx) (by have:=R.tl;simp;omega)
 rw[runS_app e2]
 obtain⟨o3,e3⟩:=run_F R g.Funcs (0+((g.Ifaces.map wdI).map lineOf).length+((g.Types.flatMap tyL).map lineOf).length) o2 ([]++g.Ifaces) ([]++g.Types) [] [] (fun x hx=>hx) (by have:=R.fl;simp;omega)
 rw[runS_app e3]
 obtain⟨o4,e4⟩:=run_E g.Entries (0+((g.Ifaces.map wdI).map lineOf).length+((g.Types.flatMap tyL).map lineOf).length+((g.Funcs.flatMap fnL).map lineOf).length) o3 ([]++g.Ifaces) ([]++g.Types) ([]++g.Funcs) [] (fun x hx=>okE R hx)
 rw[runS_app e4]
 exact⟨o4,rfl⟩
theorem ord_self{α:Type}{nm:α->Tx}{l:List α}(h:l.Pairwise (fun a b=>Op.bytesLess (nm a) (nm b)=true)):OrdOf nm l l:=⟨.refl _,h.imp leT_of_lt⟩
theorem nd_self{α:Type}{nm:α->Tx}{l:List α}(h:l.Pairwise (fun a b=>Op.bytesLess (nm a) (nm b)=true)):(l.map nm).Nodup:=List.pairwise_map.2 (h.imp bl_ne)
theorem M5_of(F:Nat)(hF:3000000<=F){g:TGraph}(hg:okTGraph g)(hc:chk false g=0)(hl:(txtL (wdG g)).length<=1000000):M5 F (txtL (wdG g))=some (g,0,0):=by
 have R:=right_of hc
 generalize hs:txtL (wdG g)=s at hl
 obtain⟨of,hq⟩:=run_G R
 rw[hs] at hq
 unfold M5
 have e:¬decide ((s.length:Int)>1000000)=true:=by simp;omega
 rw[if_neg e,M11_eq F s _ hl,Option.bind_some]
 have hl':=split_len s 10
 have hx:∀x,x∈Lib.split s [10]->x.length<=1000000:=fun x h=>Nat.le_trans (split_mem h) hl
 have h0:Inv 0 ((0,[],[],[],[]):Sto):=⟨.inl rfl,by simp,by simp,by simp,by simp,by simp,by simp,by simp,by simp⟩
 simp only[jn_def]
 have e5:=fun k=>M5_L1_eq F k (Lib.split s [10]) 0 (0,[],[],[],[]) h0 (by omega) hx
 simp only[show((0:Nat):Int)=0 from rfl] at e5
 rw[e5,hq]
 have hi:=runS_inv _ _ _ _ h0 hx hq
 have hn:0+(Lib.split s [10]).length<=1000001:=by omega
 obtain⟨ok,I,T,G,E,eM,hok,hof⟩:=M14_eq F hF _ hi hn
 simp only[] at eM hof
 have hgood:Good (of,g.Ifaces,g.Types,g.Funcs,g.Entries):=⟨fun t ht=>nd_self (nm:=TMethod.Name) (R.t t ht).srt,fun t ht=>nodup_lt (R.f t ht).msrt,nd_self (nm:=TIface.Name) R.isrt,nd_self (nm:=TType.Name) R.tsrt,nd_self (nm:=TFunc.Name) R.fsrt,nodup_lt R.esrt⟩
 have zk:=hok.2 hgood
 obtain⟨oI,oT,oG,oE⟩:=hof zk
 have mT:g.Types.map sT=g.Types:=by
  conv=>rhs;rw[<-List.map_id g.Types]
  apply List.map_congr_left
  intro t ht
  unfold sT
  rw[(smM_ord t.Methods).uniq (ord_self (nm:=TMethod.Name) (R.t t ht).srt) (.refl _) (nd_self (nm:=TMethod.Name) (R.t t ht).srt)]
  rfl
 have mF:g.Funcs.map sF=g.Funcs:=by
  conv=>rhs;rw[<-List.map_id g.Funcs]
  apply List.map_congr_left
  intro t ht
  unfold sF
  rw[srtT_id (R.f t ht).msrt]
  rfl
 rw[mT] at oT
 rw[mF] at oG
 have uI:I=g.Ifaces:=oI.uniq (ord_self (nm:=TIface.Name) R.isrt) (.refl _) hgood.i
 have uT:T=g.Types:=oT.uniq (ord_self (nm:=TType.Name) R.tsrt) (.refl _) hgood.t
 have uG:G=g.Funcs:=oG.uniq (ord_self (nm:=TFunc.Name) R.fsrt) (.refl _) hgood.f
 have uE:E=g.Entries:=by rw[oE];exact srtT_id R.esrt
 subst uI;subst uT;subst uG;subst uE
 simp only[]
 rw[eM,Option.bind_some,if_neg (by rw[zk];simp),show TGraph.mk g.Ifaces g.Types g.Funcs g.Entries=g from rfl,M15_eq F g hg,Option.bind_some,hc]
 rfl
theorem plain_4(g:TGraph)(hg:okTGraph g):∃F,M4 F g=some true:=by
 refine⟨3000000,?_⟩
 generalize hF:3000000=F
 unfold M4
 rw[M9_eq F g hg,Option.bind_some,M10_eq F g hg,Option.bind_some,if_neg (by simp),if_neg (by simp)]
 by_cases hc:chk false g=0
 ·by_cases hl:1000000<(txtL (wdG g)).length
  ·have e:ansP g=([],3):=by unfold ansP;rw[if_neg (by simp[hc]),if_pos hl]
   rw[e];rfl
  ·have e:ansP g=(txtL (wdG g),0):=by unfold ansP;rw[if_neg (by simp[hc]),if_neg hl]
   rw[e,if_neg (by simp)]
   simp only[]
   rw[M5_of F (by omega) hg hc (by omega),Option.bind_some,if_pos (by simp),if_pos (by simp),M7_same,Option.bind_some,if_pos rfl]
   rfl
 ·have e:ansP g=([],chk false g):=by unfold ansP;rw[if_pos (by simpa using hc)]
  rw[e,if_pos (by simpa using hc)]
  rfl
end Go.Proofs.YtjofofmllnpkpaaGreatDoor
/-
 DERIVED: THE SHELF's CONTRACTS AT THIS DUMP, IN PLAIN WORDS (tools/lay-plain.mjs out of 'TryzShelf.lean', which tools/lay-shelf.mjs wrote): THE SAME DECLARATIONS UNDER THE SAME NAMES: 'import', 'namespace', 'open', 'def', 'theorem' AND NOTHING ELSE: no command of the shelf's: FOR A HAND-IN. Each laying: the table of numbers ('.._ren') and one theorem, a field a fact of the dump's own or the kernel's comparison; each contract: ONE APPLICATION.
-/
namespace Go.Proofs
open Go.Shelf
def Tryz.lays170_ren:Go.Shelf.Ren:=⟨fun|170=>35|n=>n,fun|70=>77|3=>3|0=>0|72=>80|37=>78|5=>5|n=>n,fun|n=>n⟩
theorem Tryz.lays170:Go.Proofs.Lays.n170 Tryz.prog Tryz.lays170_ren:={
 mixed:=by kernel_rfl
 f170:=Tryz.func35.trans (congrArg some (by kernel_rfl))
 t0:=Tryz.underlying0
 a0:=Tryz.isAgg0
 z0:=Tryz.sizeOf0
 v0:=Tryz.zeroValue0
 t3:=Tryz.underlying3
 a3:=Tryz.isAgg3
 z3:=Tryz.sizeOf3
 v3:=Tryz.zeroValue3
 t37:=Tryz.underlying78
 a37:=Tryz.isAgg78
 z37:=Tryz.sizeOf78
 v37:=Tryz.zeroValue78
 t70:=Tryz.underlying77
 a70:=Tryz.isAgg77
 z70:=Tryz.sizeOf77
 v70:=Tryz.zeroValue77
 t72:=Tryz.underlying80
 a72:=Tryz.isAgg80
 z72:=Tryz.sizeOf80
 v72:=Tryz.zeroValue80 }
open Go.RowKit in
theorem Tryz.Builder_Len(B b:Nat)(bs:List Value)(w:World)(h:Lib.IsBuilder 80 5 B b bs w):
  Calls Tryz.prog 35 #[.pointer (some ⟨b,0,none⟩)] w fun e w'=>e=.returned (.int .i64 bs.length)/\w'=w:=Any.Builder_Len Tryz.lays170 B b bs w h
def Tryz.lays169_ren:Go.Shelf.Ren:=⟨fun|169=>36|n=>n,fun|70=>77|9=>9|0=>0|72=>80|37=>78|127=>141|3=>3|5=>5|n=>n,fun|n=>n⟩
theorem Tryz.lays169:Go.Proofs.Lays.n169 Tryz.prog Tryz.lays169_ren:={
 mixed:=by kernel_rfl
 f169:=Tryz.func36.trans (congrArg some (by kernel_rfl))
 t0:=Tryz.underlying0
 a0:=Tryz.isAgg0
 z0:=Tryz.sizeOf0
 v0:=Tryz.zeroValue0
 t3:=Tryz.underlying3
 a3:=Tryz.isAgg3
 z3:=Tryz.sizeOf3
 v3:=Tryz.zeroValue3
 t9:=Tryz.underlying9
 a9:=Tryz.isAgg9
 z9:=Tryz.sizeOf9
 v9:=Tryz.zeroValue9
 t37:=Tryz.underlying78
 a37:=Tryz.isAgg78
 z37:=Tryz.sizeOf78
 v37:=Tryz.zeroValue78
 t70:=Tryz.underlying77
 a70:=Tryz.isAgg77
 z70:=Tryz.sizeOf77
 v70:=Tryz.zeroValue77
 t72:=Tryz.underlying80
 a72:=Tryz.isAgg80
 z72:=Tryz.sizeOf80
 v72:=Tryz.zeroValue80
 t127:=Tryz.underlying141
 a127:=Tryz.isAgg141
 z127:=Tryz.sizeOf141
 v127:=Tryz.zeroValue141 }
theorem Tryz.Builder_Extra_169:Builder.Extra Tryz.prog Tryz.lays169_ren:={
 sizeBuilder:=by kernel_rfl
 liesBuilder:=by kernel_rfl
 t5:=Tryz.underlying5
 a5:=Tryz.isAgg5
 z5:=Tryz.sizeOf5
 v5:=Tryz.zeroValue5
 infoByte:=by kernel_rfl
 cellsByte:=by kernel_rfl
 sizeByte:=by kernel_rfl
 neB5:=by decide }
def Tryz.lays156_ren:Go.Shelf.Ren:=⟨fun|156=>33|165=>71|166=>32|169=>36|240=>70|241=>105|276=>104|277=>137|n=>n,fun|31=>25|9=>9|3=>3|4=>4|0=>0|20=>20|72=>80|76=>83|70=>77|37=>78|75=>82|127=>141|164=>171|5=>5|80=>88|n=>n,fun|n=>n⟩
theorem Tryz.lays156:Go.Proofs.Lays.n156 Tryz.prog Tryz.lays156_ren:={
 mixed:=by kernel_rfl
 f156:=Tryz.func33.trans (congrArg some (by kernel_rfl))
 f165:=Tryz.func71.trans (congrArg some (by kernel_rfl))
 f166:=Tryz.func32.trans (congrArg some (by kernel_rfl))
 f169:=Tryz.func36.trans (congrArg some (by kernel_rfl))
 f240:=Tryz.func70.trans (congrArg some (by kernel_rfl))
 f241:=Tryz.func105.trans (congrArg some (by kernel_rfl))
 f276:=Tryz.func104.trans (congrArg some (by kernel_rfl))
 f277:=Tryz.func137.trans (congrArg some (by kernel_rfl))
 t0:=Tryz.underlying0
 a0:=Tryz.isAgg0
 z0:=Tryz.sizeOf0
 v0:=Tryz.zeroValue0
 t3:=Tryz.underlying3
 a3:=Tryz.isAgg3
 z3:=Tryz.sizeOf3
 v3:=Tryz.zeroValue3
 t4:=Tryz.underlying4
 a4:=Tryz.isAgg4
 z4:=Tryz.sizeOf4
 v4:=Tryz.zeroValue4
 t9:=Tryz.underlying9
 a9:=Tryz.isAgg9
 z9:=Tryz.sizeOf9
 v9:=Tryz.zeroValue9
 t20:=Tryz.underlying20
 a20:=Tryz.isAgg20
 z20:=Tryz.sizeOf20
 v20:=Tryz.zeroValue20
 t31:=Tryz.underlying25
 a31:=Tryz.isAgg25
 z31:=Tryz.sizeOf25
 v31:=Tryz.zeroValue25
 t37:=Tryz.underlying78
 a37:=Tryz.isAgg78
 z37:=Tryz.sizeOf78
 v37:=Tryz.zeroValue78
 t70:=Tryz.underlying77
 a70:=Tryz.isAgg77
 z70:=Tryz.sizeOf77
 v70:=Tryz.zeroValue77
 t72:=Tryz.underlying80
 a72:=Tryz.isAgg80
 z72:=Tryz.sizeOf80
 v72:=Tryz.zeroValue80
 t75:=Tryz.underlying82
 a75:=Tryz.isAgg82
 z75:=Tryz.sizeOf82
 v75:=Tryz.zeroValue82
 t76:=Tryz.underlying83
 a76:=Tryz.isAgg83
 z76:=Tryz.sizeOf83
 v76:=Tryz.zeroValue83
 t127:=Tryz.underlying141
 a127:=Tryz.isAgg141
 z127:=Tryz.sizeOf141
 v127:=Tryz.zeroValue141
 t164:=Tryz.underlying171
 a164:=Tryz.isAgg171
 z164:=Tryz.sizeOf171
 v164:=Tryz.zeroValue171 }
theorem Tryz.Builder_Extra_156:Builder.Extra Tryz.prog Tryz.lays156_ren:={
 sizeBuilder:=by kernel_rfl
 liesBuilder:=by kernel_rfl
 t5:=Tryz.underlying5
 a5:=Tryz.isAgg5
 z5:=Tryz.sizeOf5
 v5:=Tryz.zeroValue5
 infoByte:=by kernel_rfl
 cellsByte:=by kernel_rfl
 sizeByte:=by kernel_rfl
 neB5:=by decide }
def Tryz.lays145_ren:Go.Shelf.Ren:=⟨fun|145=>16|220=>62|219=>93|217=>128|225=>129|224=>130|267=>131|266=>170|314=>171|n=>n,fun|9=>9|4=>4|59=>49|3=>3|5=>5|46=>149|146=>227|51=>189|n=>n,fun|1=>0|n=>n⟩
theorem Tryz.lays145:Go.Proofs.Lays.n145 Tryz.prog Tryz.lays145_ren:={
 mixed:=by kernel_rfl
 f145:=Tryz.func16.trans (congrArg some (by kernel_rfl))
 f217:=Tryz.func128.trans (congrArg some (by kernel_rfl))
 f219:=Tryz.func93.trans (congrArg some (by kernel_rfl))
 f220:=Tryz.func62.trans (congrArg some (by kernel_rfl))
 f224:=Tryz.func130.trans (congrArg some (by kernel_rfl))
 f225:=Tryz.func129.trans (congrArg some (by kernel_rfl))
 f266:=Tryz.func170.trans (congrArg some (by kernel_rfl))
 f267:=Tryz.func131.trans (congrArg some (by kernel_rfl))
 f314:=Tryz.func171.trans (congrArg some (by kernel_rfl))
 t3:=Tryz.underlying3
 a3:=Tryz.isAgg3
 z3:=Tryz.sizeOf3
 v3:=Tryz.zeroValue3
 t4:=Tryz.underlying4
 a4:=Tryz.isAgg4
 z4:=Tryz.sizeOf4
 v4:=Tryz.zeroValue4
 t5:=Tryz.underlying5
 a5:=Tryz.isAgg5
 z5:=Tryz.sizeOf5
 v5:=Tryz.zeroValue5
 t9:=Tryz.underlying9
 a9:=Tryz.isAgg9
 z9:=Tryz.sizeOf9
 v9:=Tryz.zeroValue9
 t46:=Tryz.underlying149
 a46:=Tryz.isAgg149
 z46:=Tryz.sizeOf149
 v46:=Tryz.zeroValue149
 t51:=Tryz.underlying189
 a51:=Tryz.isAgg189
 z51:=Tryz.sizeOf189
 v51:=Tryz.zeroValue189
 t59:=Tryz.underlying49
 a59:=Tryz.isAgg49
 z59:=Tryz.sizeOf49
 v59:=Tryz.zeroValue49
 t146:=Tryz.underlying227
 a146:=Tryz.isAgg227
 z146:=Tryz.sizeOf227
 v146:=Tryz.zeroValue227
 g1:=by kernel_rfl }
open Go.RowKit Go.Lib in
theorem Tryz.strings_Cut(s sep:ByteArray)(m:Int)(w:World)(hs:s.size<4294967281)(hm:w.cell? ⟨0,0,none⟩=some (.int .i64 m)):
  Calls Tryz.prog 16 #[.string s,.string sep] w fun e w'=>e=.returned (.tuple #[.string ⟨(Lib.cut s.data.toList sep.data.toList).1.toArray⟩,.string ⟨(Lib.cut s.data.toList sep.data.toList).2.1.toArray⟩,.bool (Lib.cut s.data.toList sep.data.toList).2.2])/\∃n,w'=w.drewN n:=Any.strings_Cut Tryz.lays145 s sep m w hs hm
def Tryz.laysM138_ren:Go.Shelf.Ren:=⟨fun|138=>73|195=>106|218=>108|143=>74|219=>93|217=>128|225=>129|224=>130|267=>131|266=>170|314=>171|n=>n,fun|9=>9|3=>3|4=>4|5=>5|0=>0|46=>149|146=>227|51=>189|n=>n,fun|1=>0|n=>n⟩
theorem Tryz.laysM138:Go.Proofs.LaysM.n138 Tryz.prog Tryz.laysM138_ren:={
 mixed:=by kernel_rfl
 f138:=Tryz.func73.trans (congrArg some (by kernel_rfl))
 f143:=Tryz.func74.trans (congrArg some (by kernel_rfl))
 f195:=Tryz.func106.trans (congrArg some (by kernel_rfl))
 f217:=Tryz.func128.trans (congrArg some (by kernel_rfl))
 f218:=Tryz.func108.trans (congrArg some (by kernel_rfl))
 f219:=Tryz.func93.trans (congrArg some (by kernel_rfl))
 f224:=Tryz.func130.trans (congrArg some (by kernel_rfl))
 f225:=Tryz.func129.trans (congrArg some (by kernel_rfl))
 f266:=Tryz.func170.trans (congrArg some (by kernel_rfl))
 f267:=Tryz.func131.trans (congrArg some (by kernel_rfl))
 f314:=Tryz.func171.trans (congrArg some (by kernel_rfl))
 t0:=Tryz.underlying0
 a0:=Tryz.isAgg0
 z0:=Tryz.sizeOf0
 v0:=Tryz.zeroValue0
 t3:=Tryz.underlying3
 a3:=Tryz.isAgg3
 z3:=Tryz.sizeOf3
 v3:=Tryz.zeroValue3
 t4:=Tryz.underlying4
 a4:=Tryz.isAgg4
 z4:=Tryz.sizeOf4
 v4:=Tryz.zeroValue4
 t5:=Tryz.underlying5
 a5:=Tryz.isAgg5
 z5:=Tryz.sizeOf5
 v5:=Tryz.zeroValue5
 t9:=Tryz.underlying9
 a9:=Tryz.isAgg9
 z9:=Tryz.sizeOf9
 v9:=Tryz.zeroValue9
 t46:=Tryz.underlying149
 a46:=Tryz.isAgg149
 z46:=Tryz.sizeOf149
 v46:=Tryz.zeroValue149
 t51:=Tryz.underlying189
 a51:=Tryz.isAgg189
 z51:=Tryz.sizeOf189
 v51:=Tryz.zeroValue189
 t146:=Tryz.underlying227
 a146:=Tryz.isAgg227
 z146:=Tryz.sizeOf227
 v146:=Tryz.zeroValue227
 g1:=by kernel_rfl
 i0:=by kernel_rfl
 i3:=by kernel_rfl
 i4:=by kernel_rfl
 i5:=by kernel_rfl
 i9:=by kernel_rfl
 i46:=by kernel_rfl
 i51:=by kernel_rfl
 i146:=by kernel_rfl
 m1:=by kernel_rfl
 s1_3:=fun w h=>Go.Proofs.cell_of_shapedOpen_int (zero:=#[.int .i64 0]) (t:=3) h (of_decide_eq_true (by kernel_rfl)) (by kernel_rfl) rfl (by kernel_rfl) (by kernel_rfl) Tryz.underlying3 }
def Tryz.lays190_ren:Go.Shelf.Ren:=⟨fun|190=>45|125=>79|258=>78|128=>120|129=>121|302=>111|303=>112|304=>113|305=>114|306=>115|307=>116|308=>117|309=>118|310=>119|333=>140|329=>141|330=>142|334=>143|335=>144|336=>77|344=>175|n=>n,fun|31=>25|9=>9|3=>3|46=>149|0=>0|51=>189|53=>191|4=>4|183=>181|182=>180|131=>186|5=>5|218=>204|222=>208|228=>237|229=>238|n=>n,fun|n=>n⟩
theorem Tryz.lays190:Go.Proofs.Lays.n190 Tryz.prog Tryz.lays190_ren:={
 mixed:=by kernel_rfl
 f125:=Tryz.func79.trans (congrArg some (by kernel_rfl))
 f128:=Tryz.func120.trans (congrArg some (by kernel_rfl))
 f129:=Tryz.func121.trans (congrArg some (by kernel_rfl))
 f190:=Tryz.func45.trans (congrArg some (by kernel_rfl))
 f258:=Tryz.func78.trans (congrArg some (by kernel_rfl))
 f302:=Tryz.func111.trans (congrArg some (by kernel_rfl))
 f303:=Tryz.func112.trans (congrArg some (by kernel_rfl))
 f304:=Tryz.func113.trans (congrArg some (by kernel_rfl))
 f305:=Tryz.func114.trans (congrArg some (by kernel_rfl))
 f306:=Tryz.func115.trans (congrArg some (by kernel_rfl))
 f307:=Tryz.func116.trans (congrArg some (by kernel_rfl))
 f308:=Tryz.func117.trans (congrArg some (by kernel_rfl))
 f309:=Tryz.func118.trans (congrArg some (by kernel_rfl))
 f310:=Tryz.func119.trans (congrArg some (by kernel_rfl))
 f329:=Tryz.func141.trans (congrArg some (by kernel_rfl))
 f330:=Tryz.func142.trans (congrArg some (by kernel_rfl))
 f333:=Tryz.func140.trans (congrArg some (by kernel_rfl))
 f334:=Tryz.func143.trans (congrArg some (by kernel_rfl))
 f335:=Tryz.func144.trans (congrArg some (by kernel_rfl))
 f336:=Tryz.func77.trans (congrArg some (by kernel_rfl))
 f344:=Tryz.func175.trans (congrArg some (by kernel_rfl))
 t0:=Tryz.underlying0
 a0:=Tryz.isAgg0
 z0:=Tryz.sizeOf0
 v0:=Tryz.zeroValue0
 t3:=Tryz.underlying3
 a3:=Tryz.isAgg3
 z3:=Tryz.sizeOf3
 v3:=Tryz.zeroValue3
 t4:=Tryz.underlying4
 a4:=Tryz.isAgg4
 z4:=Tryz.sizeOf4
 v4:=Tryz.zeroValue4
 t5:=Tryz.underlying5
 a5:=Tryz.isAgg5
 z5:=Tryz.sizeOf5
 v5:=Tryz.zeroValue5
 t9:=Tryz.underlying9
 a9:=Tryz.isAgg9
 z9:=Tryz.sizeOf9
 v9:=Tryz.zeroValue9
 t31:=Tryz.underlying25
 a31:=Tryz.isAgg25
 z31:=Tryz.sizeOf25
 v31:=Tryz.zeroValue25
 t46:=Tryz.underlying149
 a46:=Tryz.isAgg149
 z46:=Tryz.sizeOf149
 v46:=Tryz.zeroValue149
 t51:=Tryz.underlying189
 a51:=Tryz.isAgg189
 z51:=Tryz.sizeOf189
 v51:=Tryz.zeroValue189
 t53:=Tryz.underlying191
 a53:=Tryz.isAgg191
 z53:=Tryz.sizeOf191
 v53:=Tryz.zeroValue191
 t131:=Tryz.underlying186
 a131:=Tryz.isAgg186
 z131:=Tryz.sizeOf186
 v131:=Tryz.zeroValue186
 t182:=Tryz.underlying180
 a182:=Tryz.isAgg180
 z182:=Tryz.sizeOf180
 v182:=Tryz.zeroValue180
 t183:=Tryz.underlying181
 a183:=Tryz.isAgg181
 z183:=Tryz.sizeOf181
 v183:=Tryz.zeroValue181
 t218:=Tryz.underlying204
 a218:=Tryz.isAgg204
 z218:=Tryz.sizeOf204
 v218:=Tryz.zeroValue204
 t222:=Tryz.underlying208
 a222:=Tryz.isAgg208
 z222:=Tryz.sizeOf208
 v222:=Tryz.zeroValue208
 t228:=Tryz.underlying237
 a228:=Tryz.isAgg237
 z228:=Tryz.sizeOf237
 v228:=Tryz.zeroValue237
 t229:=Tryz.underlying238
 a229:=Tryz.isAgg238
 z229:=Tryz.sizeOf238
 v229:=Tryz.zeroValue238 }
open Go.Sort Go.RowKit in
theorem Tryz.slices_Sort_string(blk off cap:Nat)(ss:List (List UInt8))(w:World)(hH:Holds encStr w blk off ss.toArray)(hblk:blk<w.heap.size)(hsz:ss.length<4611686018427387904):
  Calls Tryz.prog 45 #[.slice (some ⟨blk,off,none⟩) ss.length cap] w fun e w'=>
   e=.returned (.tuple #[])/\∃n os,w'=grow (putRow encStr (Sort.ahead w n) blk off (ss.mergeSort fun x y=>decide (x<=y)).toArray) os:=Any.slices_Sort_string Tryz.lays190 blk off cap ss w hH hblk hsz
def Tryz.lays146_ren:Go.Shelf.Ren:=⟨fun|146=>11|221=>38|268=>72|138=>73|143=>74|195=>106|197=>107|218=>108|219=>93|260=>138|217=>128|225=>129|224=>130|267=>131|266=>170|314=>171|n=>n,fun|9=>9|31=>25|3=>3|4=>4|0=>0|105=>174|21=>21|5=>5|46=>149|119=>233|139=>236|138=>235|146=>227|51=>189|n=>n,fun|1=>0|3=>1|4=>2|n=>n⟩
theorem Tryz.lays146:Go.Proofs.Lays.n146 Tryz.prog Tryz.lays146_ren:={
 mixed:=by kernel_rfl
 f138:=Tryz.func73.trans (congrArg some (by kernel_rfl))
 f143:=Tryz.func74.trans (congrArg some (by kernel_rfl))
 f146:=Tryz.func11.trans (congrArg some (by kernel_rfl))
 f195:=Tryz.func106.trans (congrArg some (by kernel_rfl))
 f197:=Tryz.func107.trans (congrArg some (by kernel_rfl))
 f217:=Tryz.func128.trans (congrArg some (by kernel_rfl))
 f218:=Tryz.func108.trans (congrArg some (by kernel_rfl))
 f219:=Tryz.func93.trans (congrArg some (by kernel_rfl))
 f221:=Tryz.func38.trans (congrArg some (by kernel_rfl))
 f224:=Tryz.func130.trans (congrArg some (by kernel_rfl))
 f225:=Tryz.func129.trans (congrArg some (by kernel_rfl))
 f260:=Tryz.func138.trans (congrArg some (by kernel_rfl))
 f266:=Tryz.func170.trans (congrArg some (by kernel_rfl))
 f267:=Tryz.func131.trans (congrArg some (by kernel_rfl))
 f268:=Tryz.func72.trans (congrArg some (by kernel_rfl))
 f314:=Tryz.func171.trans (congrArg some (by kernel_rfl))
 t0:=Tryz.underlying0
 a0:=Tryz.isAgg0
 z0:=Tryz.sizeOf0
 v0:=Tryz.zeroValue0
 t3:=Tryz.underlying3
 a3:=Tryz.isAgg3
 z3:=Tryz.sizeOf3
 v3:=Tryz.zeroValue3
 t4:=Tryz.underlying4
 a4:=Tryz.isAgg4
 z4:=Tryz.sizeOf4
 v4:=Tryz.zeroValue4
 t5:=Tryz.underlying5
 a5:=Tryz.isAgg5
 z5:=Tryz.sizeOf5
 v5:=Tryz.zeroValue5
 t9:=Tryz.underlying9
 a9:=Tryz.isAgg9
 z9:=Tryz.sizeOf9
 v9:=Tryz.zeroValue9
 t21:=Tryz.underlying21
 a21:=Tryz.isAgg21
 z21:=Tryz.sizeOf21
 v21:=Tryz.zeroValue21
 t31:=Tryz.underlying25
 a31:=Tryz.isAgg25
 z31:=Tryz.sizeOf25
 v31:=Tryz.zeroValue25
 t46:=Tryz.underlying149
 a46:=Tryz.isAgg149
 z46:=Tryz.sizeOf149
 v46:=Tryz.zeroValue149
 t51:=Tryz.underlying189
 a51:=Tryz.isAgg189
 z51:=Tryz.sizeOf189
 v51:=Tryz.zeroValue189
 t105:=Tryz.underlying174
 a105:=Tryz.isAgg174
 z105:=Tryz.sizeOf174
 v105:=Tryz.zeroValue174
 t119:=Tryz.underlying233
 a119:=Tryz.isAgg233
 z119:=Tryz.sizeOf233
 t138:=Tryz.underlying235
 a138:=Tryz.isAgg235
 z138:=Tryz.sizeOf235
 v138:=Tryz.zeroValue235
 t139:=Tryz.underlying236
 a139:=Tryz.isAgg236
 z139:=Tryz.sizeOf236
 v139:=Tryz.zeroValue236
 t146:=Tryz.underlying227
 a146:=Tryz.isAgg227
 z146:=Tryz.sizeOf227
 v146:=Tryz.zeroValue227
 g1:=by kernel_rfl
 g3:=by kernel_rfl
 g4:=by kernel_rfl }
open Go.RowKit Go.Lib in
theorem Tryz.strings_Split(s sep:ByteArray)(m:Int)(w:World)(hs:s.size<4294967281)(hm:w.cell? ⟨0,0,none⟩=some (.int .i64 m))(h1:1<=sep.size):
  Calls Tryz.prog 11 #[.string s,.string sep] w fun e w'=>
   e=.returned (.slice (some ⟨w.heap.size,0,none⟩) (Lib.countB s sep+1) (Lib.countB s sep+1))/\w'=w.alloc (.cells ((Lib.splitB sep 0 (Lib.countB s sep) s).map Value.string).toArray 9):=Any.strings_Split Tryz.lays146 (by kernel_rfl) s sep m w hs hm h1
open Go.RowKit Go.Sort in
theorem Tryz.slices_Sort_string_none(p:Option Addr)(cap:Nat)(w:World):
  Calls Tryz.prog 45 #[.slice p 0 cap] w fun e w'=>e=.returned (.tuple #[])/\w'=w:=Any.slices_Sort_string_none Tryz.lays190 p cap w
def Tryz.laysSlF06_f80_ren:Go.Shelf.Ren:=⟨fun|6=>80|15=>79|14=>122|28=>120|29=>121|20=>145|21=>146|22=>147|23=>148|24=>149|25=>150|26=>151|27=>152|46=>176|47=>141|48=>142|49=>177|50=>178|57=>188|n=>n,fun|22=>22|24=>56|25=>151|3=>3|39=>149|0=>0|53=>189|55=>191|4=>4|46=>181|45=>180|50=>186|5=>5|9=>9|66=>204|70=>208|76=>237|77=>238|n=>n,fun|n=>n⟩
theorem Tryz.laysSlF06_f80:Go.Proofs.SlLaysF0.n6 Tryz.prog Tryz.laysSlF06_f80_ren:={
 mixed:=by kernel_rfl
 f6:=⟨Tryz.f80.name,by decide,Tryz.func80.trans (congrArg some (by kernel_rfl))⟩
 f14:=⟨Tryz.f122.name,by decide,Tryz.func122.trans (congrArg some (by kernel_rfl))⟩
 f15:=Tryz.func79.trans (congrArg some (by kernel_rfl))
 f20:=⟨Tryz.f145.name,by decide,Tryz.func145.trans (congrArg some (by kernel_rfl))⟩
 f21:=⟨Tryz.f146.name,by decide,Tryz.func146.trans (congrArg some (by kernel_rfl))⟩
 f22:=⟨Tryz.f147.name,by decide,Tryz.func147.trans (congrArg some (by kernel_rfl))⟩
 f23:=⟨Tryz.f148.name,by decide,Tryz.func148.trans (congrArg some (by kernel_rfl))⟩
 f24:=⟨Tryz.f149.name,by decide,Tryz.func149.trans (congrArg some (by kernel_rfl))⟩
 f25:=⟨Tryz.f150.name,by decide,Tryz.func150.trans (congrArg some (by kernel_rfl))⟩
 f26:=⟨Tryz.f151.name,by decide,Tryz.func151.trans (congrArg some (by kernel_rfl))⟩
 f27:=⟨Tryz.f152.name,by decide,Tryz.func152.trans (congrArg some (by kernel_rfl))⟩
 f28:=Tryz.func120.trans (congrArg some (by kernel_rfl))
 f29:=Tryz.func121.trans (congrArg some (by kernel_rfl))
 f46:=⟨Tryz.f176.name,by decide,Tryz.func176.trans (congrArg some (by kernel_rfl))⟩
 f47:=Tryz.func141.trans (congrArg some (by kernel_rfl))
 f48:=Tryz.func142.trans (congrArg some (by kernel_rfl))
 f49:=⟨Tryz.f177.name,by decide,Tryz.func177.trans (congrArg some (by kernel_rfl))⟩
 f50:=⟨Tryz.f178.name,by decide,Tryz.func178.trans (congrArg some (by kernel_rfl))⟩
 f57:=⟨Tryz.f188.name,by decide,Tryz.func188.trans (congrArg some (by kernel_rfl))⟩
 t0:=Tryz.underlying0
 a0:=Tryz.isAgg0
 z0:=Tryz.sizeOf0
 v0:=Tryz.zeroValue0
 t3:=Tryz.underlying3
 a3:=Tryz.isAgg3
 z3:=Tryz.sizeOf3
 v3:=Tryz.zeroValue3
 t4:=Tryz.underlying4
 a4:=Tryz.isAgg4
 z4:=Tryz.sizeOf4
 v4:=Tryz.zeroValue4
 t5:=Tryz.underlying5
 a5:=Tryz.isAgg5
 z5:=Tryz.sizeOf5
 v5:=Tryz.zeroValue5
 t9:=Tryz.underlying9
 a9:=Tryz.isAgg9
 z9:=Tryz.sizeOf9
 v9:=Tryz.zeroValue9
 t22:=Tryz.underlying22
 a22:=Tryz.isAgg22
 z22:=Tryz.sizeOf22
 v22:=Tryz.zeroValue22
 t25:=Tryz.underlying151
 a25:=Tryz.isAgg151
 z25:=Tryz.sizeOf151
 v25:=Tryz.zeroValue151
 t39:=Tryz.underlying149
 a39:=Tryz.isAgg149
 z39:=Tryz.sizeOf149
 v39:=Tryz.zeroValue149
 t45:=Tryz.underlying180
 a45:=Tryz.isAgg180
 z45:=Tryz.sizeOf180
 v45:=Tryz.zeroValue180
 t46:=Tryz.underlying181
 a46:=Tryz.isAgg181
 z46:=Tryz.sizeOf181
 v46:=Tryz.zeroValue181
 t50:=Tryz.underlying186
 a50:=Tryz.isAgg186
 z50:=Tryz.sizeOf186
 v50:=Tryz.zeroValue186
 t53:=Tryz.underlying189
 a53:=Tryz.isAgg189
 z53:=Tryz.sizeOf189
 v53:=Tryz.zeroValue189
 t55:=Tryz.underlying191
 a55:=Tryz.isAgg191
 z55:=Tryz.sizeOf191
 v55:=Tryz.zeroValue191
 t66:=Tryz.underlying204
 a66:=Tryz.isAgg204
 z66:=Tryz.sizeOf204
 v66:=Tryz.zeroValue204
 t70:=Tryz.underlying208
 a70:=Tryz.isAgg208
 z70:=Tryz.sizeOf208
 v70:=Tryz.zeroValue208
 t76:=Tryz.underlying237
 a76:=Tryz.isAgg237
 z76:=Tryz.sizeOf237
 v76:=Tryz.zeroValue237
 t77:=Tryz.underlying238
 a77:=Tryz.isAgg238
 z77:=Tryz.sizeOf238
 v77:=Tryz.zeroValue238 }
open Go.RowKit Go.Lib Go.Sort in
theorem Tryz.slices_SortFunc_eq_f80{α:Type}[Inhabited α](k:Nat)(aE:∀w,(isAgg (Tryz.laysSlF06_f80_ren.t 24)).run Tryz.prog w=.ok true w)(zE:∀w,(Go.sizeOf (Tryz.laysSlF06_f80_ren.t 24)).run Tryz.prog w=.ok k w)(enc:α->List Value)(hk:∀x,(enc x).length=k)(h1:∀x,∀v∈enc x,v.oneCell'=true)(cf:α->α->Int)(hO:SWO (ltOf cf))(g:Nat)(cb:Array Value)(blk off cap:Nat)(d:Array α)(w:World)(eg:∀args w,(callFunc g args).run Tryz.prog w=.ok (.enter g args) w)(hcmp:CmpLays Tryz.prog g cb enc k cf blk off d.size w)(hH:HoldsK enc k w blk off d)(hblk:blk<w.heap.size)(hsz:d.size<4611686018427387904):
  Calls Tryz.prog 80 #[.slice (some ⟨blk,off,none⟩) d.size cap,.func (.func g) #[] cb] w fun e w'=>
   e=.returned (.tuple #[])/\∃n os,w'=sortWorldK enc k w blk off n (pdq (ltOf cf) d 0 d.size (Lib.bitLen d.size) true true) os:=AnyQ.slices_SortFunc_eq Tryz.laysSlF06_f80 k aE zE enc hk h1 cf hO g cb blk off cap d w eg hcmp hH hblk hsz
def Tryz.laysSlF06_f83_ren:Go.Shelf.Ren:=⟨fun|6=>83|15=>79|14=>123|28=>120|29=>121|20=>153|21=>154|22=>155|23=>156|24=>157|25=>158|26=>159|27=>160|46=>179|47=>141|48=>142|49=>180|50=>181|57=>189|n=>n,fun|22=>23|24=>61|25=>153|3=>3|39=>149|0=>0|53=>189|55=>191|4=>4|46=>181|45=>180|50=>186|5=>5|9=>9|66=>204|70=>208|76=>237|77=>238|n=>n,fun|n=>n⟩
theorem Tryz.laysSlF06_f83:Go.Proofs.SlLaysF0.n6 Tryz.prog Tryz.laysSlF06_f83_ren:={
 mixed:=by kernel_rfl
 f6:=⟨Tryz.f83.name,by decide,Tryz.func83.trans (congrArg some (by kernel_rfl))⟩
 f14:=⟨Tryz.f123.name,by decide,Tryz.func123.trans (congrArg some (by kernel_rfl))⟩
 f15:=Tryz.func79.trans (congrArg some (by kernel_rfl))
 f20:=⟨Tryz.f153.name,by decide,Tryz.func153.trans (congrArg some (by kernel_rfl))⟩
 f21:=⟨Tryz.f154.name,by decide,Tryz.func154.trans (congrArg some (by kernel_rfl))⟩
 f22:=⟨Tryz.f155.name,by decide,Tryz.func155.trans (congrArg some (by kernel_rfl))⟩
 f23:=⟨Tryz.f156.name,by decide,Tryz.func156.trans (congrArg some (by kernel_rfl))⟩
 f24:=⟨Tryz.f157.name,by decide,Tryz.func157.trans (congrArg some (by kernel_rfl))⟩
 f25:=⟨Tryz.f158.name,by decide,Tryz.func158.trans (congrArg some (by kernel_rfl))⟩
 f26:=⟨Tryz.f159.name,by decide,Tryz.func159.trans (congrArg some (by kernel_rfl))⟩
 f27:=⟨Tryz.f160.name,by decide,Tryz.func160.trans (congrArg some (by kernel_rfl))⟩
 f28:=Tryz.func120.trans (congrArg some (by kernel_rfl))
 f29:=Tryz.func121.trans (congrArg some (by kernel_rfl))
 f46:=⟨Tryz.f179.name,by decide,Tryz.func179.trans (congrArg some (by kernel_rfl))⟩
 f47:=Tryz.func141.trans (congrArg some (by kernel_rfl))
 f48:=Tryz.func142.trans (congrArg some (by kernel_rfl))
 f49:=⟨Tryz.f180.name,by decide,Tryz.func180.trans (congrArg some (by kernel_rfl))⟩
 f50:=⟨Tryz.f181.name,by decide,Tryz.func181.trans (congrArg some (by kernel_rfl))⟩
 f57:=⟨Tryz.f189.name,by decide,Tryz.func189.trans (congrArg some (by kernel_rfl))⟩
 t0:=Tryz.underlying0
 a0:=Tryz.isAgg0
 z0:=Tryz.sizeOf0
 v0:=Tryz.zeroValue0
 t3:=Tryz.underlying3
 a3:=Tryz.isAgg3
 z3:=Tryz.sizeOf3
 v3:=Tryz.zeroValue3
 t4:=Tryz.underlying4
 a4:=Tryz.isAgg4
 z4:=Tryz.sizeOf4
 v4:=Tryz.zeroValue4
 t5:=Tryz.underlying5
 a5:=Tryz.isAgg5
 z5:=Tryz.sizeOf5
 v5:=Tryz.zeroValue5
 t9:=Tryz.underlying9
 a9:=Tryz.isAgg9
 z9:=Tryz.sizeOf9
 v9:=Tryz.zeroValue9
 t22:=Tryz.underlying23
 a22:=Tryz.isAgg23
 z22:=Tryz.sizeOf23
 v22:=Tryz.zeroValue23
 t25:=Tryz.underlying153
 a25:=Tryz.isAgg153
 z25:=Tryz.sizeOf153
 v25:=Tryz.zeroValue153
 t39:=Tryz.underlying149
 a39:=Tryz.isAgg149
 z39:=Tryz.sizeOf149
 v39:=Tryz.zeroValue149
 t45:=Tryz.underlying180
 a45:=Tryz.isAgg180
 z45:=Tryz.sizeOf180
 v45:=Tryz.zeroValue180
 t46:=Tryz.underlying181
 a46:=Tryz.isAgg181
 z46:=Tryz.sizeOf181
 v46:=Tryz.zeroValue181
 t50:=Tryz.underlying186
 a50:=Tryz.isAgg186
 z50:=Tryz.sizeOf186
 v50:=Tryz.zeroValue186
 t53:=Tryz.underlying189
 a53:=Tryz.isAgg189
 z53:=Tryz.sizeOf189
 v53:=Tryz.zeroValue189
 t55:=Tryz.underlying191
 a55:=Tryz.isAgg191
 z55:=Tryz.sizeOf191
 v55:=Tryz.zeroValue191
 t66:=Tryz.underlying204
 a66:=Tryz.isAgg204
 z66:=Tryz.sizeOf204
 v66:=Tryz.zeroValue204
 t70:=Tryz.underlying208
 a70:=Tryz.isAgg208
 z70:=Tryz.sizeOf208
 v70:=Tryz.zeroValue208
 t76:=Tryz.underlying237
 a76:=Tryz.isAgg237
 z76:=Tryz.sizeOf237
 v76:=Tryz.zeroValue237
 t77:=Tryz.underlying238
 a77:=Tryz.isAgg238
 z77:=Tryz.sizeOf238
 v77:=Tryz.zeroValue238 }
open Go.RowKit Go.Lib Go.Sort in
theorem Tryz.slices_SortFunc_eq_f83{α:Type}[Inhabited α](k:Nat)(aE:∀w,(isAgg (Tryz.laysSlF06_f83_ren.t 24)).run Tryz.prog w=.ok true w)(zE:∀w,(Go.sizeOf (Tryz.laysSlF06_f83_ren.t 24)).run Tryz.prog w=.ok k w)(enc:α->List Value)(hk:∀x,(enc x).length=k)(h1:∀x,∀v∈enc x,v.oneCell'=true)(cf:α->α->Int)(hO:SWO (ltOf cf))(g:Nat)(cb:Array Value)(blk off cap:Nat)(d:Array α)(w:World)(eg:∀args w,(callFunc g args).run Tryz.prog w=.ok (.enter g args) w)(hcmp:CmpLays Tryz.prog g cb enc k cf blk off d.size w)(hH:HoldsK enc k w blk off d)(hblk:blk<w.heap.size)(hsz:d.size<4611686018427387904):
  Calls Tryz.prog 83 #[.slice (some ⟨blk,off,none⟩) d.size cap,.func (.func g) #[] cb] w fun e w'=>
   e=.returned (.tuple #[])/\∃n os,w'=sortWorldK enc k w blk off n (pdq (ltOf cf) d 0 d.size (Lib.bitLen d.size) true true) os:=AnyQ.slices_SortFunc_eq Tryz.laysSlF06_f83 k aE zE enc hk h1 cf hO g cb blk off cap d w eg hcmp hH hblk hsz
def Tryz.laysSlF06_f86_ren:Go.Shelf.Ren:=⟨fun|6=>86|15=>79|14=>124|28=>120|29=>121|20=>161|21=>162|22=>163|23=>164|24=>165|25=>166|26=>167|27=>168|46=>182|47=>141|48=>142|49=>183|50=>184|57=>190|n=>n,fun|22=>24|24=>71|25=>156|3=>3|39=>149|0=>0|53=>189|55=>191|4=>4|46=>181|45=>180|50=>186|5=>5|9=>9|66=>204|70=>208|76=>237|77=>238|n=>n,fun|n=>n⟩
theorem Tryz.laysSlF06_f86:Go.Proofs.SlLaysF0.n6 Tryz.prog Tryz.laysSlF06_f86_ren:={
 mixed:=by kernel_rfl
 f6:=⟨Tryz.f86.name,by decide,Tryz.func86.trans (congrArg some (by kernel_rfl))⟩
 f14:=⟨Tryz.f124.name,by decide,Tryz.func124.trans (congrArg some (by kernel_rfl))⟩
 f15:=Tryz.func79.trans (congrArg some (by kernel_rfl))
 f20:=⟨Tryz.f161.name,by decide,Tryz.func161.trans (congrArg some (by kernel_rfl))⟩
 f21:=⟨Tryz.f162.name,by decide,Tryz.func162.trans (congrArg some (by kernel_rfl))⟩
 f22:=⟨Tryz.f163.name,by decide,Tryz.func163.trans (congrArg some (by kernel_rfl))⟩
 f23:=⟨Tryz.f164.name,by decide,Tryz.func164.trans (congrArg some (by kernel_rfl))⟩
 f24:=⟨Tryz.f165.name,by decide,Tryz.func165.trans (congrArg some (by kernel_rfl))⟩
 f25:=⟨Tryz.f166.name,by decide,Tryz.func166.trans (congrArg some (by kernel_rfl))⟩
 f26:=⟨Tryz.f167.name,by decide,Tryz.func167.trans (congrArg some (by kernel_rfl))⟩
 f27:=⟨Tryz.f168.name,by decide,Tryz.func168.trans (congrArg some (by kernel_rfl))⟩
 f28:=Tryz.func120.trans (congrArg some (by kernel_rfl))
 f29:=Tryz.func121.trans (congrArg some (by kernel_rfl))
 f46:=⟨Tryz.f182.name,by decide,Tryz.func182.trans (congrArg some (by kernel_rfl))⟩
 f47:=Tryz.func141.trans (congrArg some (by kernel_rfl))
 f48:=Tryz.func142.trans (congrArg some (by kernel_rfl))
 f49:=⟨Tryz.f183.name,by decide,Tryz.func183.trans (congrArg some (by kernel_rfl))⟩
 f50:=⟨Tryz.f184.name,by decide,Tryz.func184.trans (congrArg some (by kernel_rfl))⟩
 f57:=⟨Tryz.f190.name,by decide,Tryz.func190.trans (congrArg some (by kernel_rfl))⟩
 t0:=Tryz.underlying0
 a0:=Tryz.isAgg0
 z0:=Tryz.sizeOf0
 v0:=Tryz.zeroValue0
 t3:=Tryz.underlying3
 a3:=Tryz.isAgg3
 z3:=Tryz.sizeOf3
 v3:=Tryz.zeroValue3
 t4:=Tryz.underlying4
 a4:=Tryz.isAgg4
 z4:=Tryz.sizeOf4
 v4:=Tryz.zeroValue4
 t5:=Tryz.underlying5
 a5:=Tryz.isAgg5
 z5:=Tryz.sizeOf5
 v5:=Tryz.zeroValue5
 t9:=Tryz.underlying9
 a9:=Tryz.isAgg9
 z9:=Tryz.sizeOf9
 v9:=Tryz.zeroValue9
 t22:=Tryz.underlying24
 a22:=Tryz.isAgg24
 z22:=Tryz.sizeOf24
 v22:=Tryz.zeroValue24
 t25:=Tryz.underlying156
 a25:=Tryz.isAgg156
 z25:=Tryz.sizeOf156
 v25:=Tryz.zeroValue156
 t39:=Tryz.underlying149
 a39:=Tryz.isAgg149
 z39:=Tryz.sizeOf149
 v39:=Tryz.zeroValue149
 t45:=Tryz.underlying180
 a45:=Tryz.isAgg180
 z45:=Tryz.sizeOf180
 v45:=Tryz.zeroValue180
 t46:=Tryz.underlying181
 a46:=Tryz.isAgg181
 z46:=Tryz.sizeOf181
 v46:=Tryz.zeroValue181
 t50:=Tryz.underlying186
 a50:=Tryz.isAgg186
 z50:=Tryz.sizeOf186
 v50:=Tryz.zeroValue186
 t53:=Tryz.underlying189
 a53:=Tryz.isAgg189
 z53:=Tryz.sizeOf189
 v53:=Tryz.zeroValue189
 t55:=Tryz.underlying191
 a55:=Tryz.isAgg191
 z55:=Tryz.sizeOf191
 v55:=Tryz.zeroValue191
 t66:=Tryz.underlying204
 a66:=Tryz.isAgg204
 z66:=Tryz.sizeOf204
 v66:=Tryz.zeroValue204
 t70:=Tryz.underlying208
 a70:=Tryz.isAgg208
 z70:=Tryz.sizeOf208
 v70:=Tryz.zeroValue208
 t76:=Tryz.underlying237
 a76:=Tryz.isAgg237
 z76:=Tryz.sizeOf237
 v76:=Tryz.zeroValue237
 t77:=Tryz.underlying238
 a77:=Tryz.isAgg238
 z77:=Tryz.sizeOf238
 v77:=Tryz.zeroValue238 }
open Go.RowKit Go.Lib Go.Sort in
theorem Tryz.slices_SortFunc_eq_f86{α:Type}[Inhabited α](k:Nat)(aE:∀w,(isAgg (Tryz.laysSlF06_f86_ren.t 24)).run Tryz.prog w=.ok true w)(zE:∀w,(Go.sizeOf (Tryz.laysSlF06_f86_ren.t 24)).run Tryz.prog w=.ok k w)(enc:α->List Value)(hk:∀x,(enc x).length=k)(h1:∀x,∀v∈enc x,v.oneCell'=true)(cf:α->α->Int)(hO:SWO (ltOf cf))(g:Nat)(cb:Array Value)(blk off cap:Nat)(d:Array α)(w:World)(eg:∀args w,(callFunc g args).run Tryz.prog w=.ok (.enter g args) w)(hcmp:CmpLays Tryz.prog g cb enc k cf blk off d.size w)(hH:HoldsK enc k w blk off d)(hblk:blk<w.heap.size)(hsz:d.size<4611686018427387904):
  Calls Tryz.prog 86 #[.slice (some ⟨blk,off,none⟩) d.size cap,.func (.func g) #[] cb] w fun e w'=>
   e=.returned (.tuple #[])/\∃n os,w'=sortWorldK enc k w blk off n (pdq (ltOf cf) d 0 d.size (Lib.bitLen d.size) true true) os:=AnyQ.slices_SortFunc_eq Tryz.laysSlF06_f86 k aE zE enc hk h1 cf hO g cb blk off cap d w eg hcmp hH hblk hsz
open Go.RowKit Go.Lib Go.Sort in
theorem Tryz.slices_SortFunc_none_f80{α:Type}[Inhabited α](p:Option Addr)(cap:Nat)(fv:Value)(w:World):
  Calls Tryz.prog 80 #[.slice p 0 cap,fv] w fun e w'=>e=.returned (.tuple #[])/\w'=w:=AnyF.slices_SortFunc_none Tryz.laysSlF06_f80 p cap fv w
open Go.RowKit Go.Lib Go.Sort in
theorem Tryz.slices_SortFunc_none_f83{α:Type}[Inhabited α](p:Option Addr)(cap:Nat)(fv:Value)(w:World):
  Calls Tryz.prog 83 #[.slice p 0 cap,fv] w fun e w'=>e=.returned (.tuple #[])/\w'=w:=AnyF.slices_SortFunc_none Tryz.laysSlF06_f83 p cap fv w
open Go.RowKit Go.Lib Go.Sort in
theorem Tryz.slices_SortFunc_none_f86{α:Type}[Inhabited α](p:Option Addr)(cap:Nat)(fv:Value)(w:World):
  Calls Tryz.prog 86 #[.slice p 0 cap,fv] w fun e w'=>e=.returned (.tuple #[])/\w'=w:=AnyF.slices_SortFunc_none Tryz.laysSlF06_f86 p cap fv w
end Go.Proofs
namespace Go.Pv
open Go
set_option linter.unusedVariables false
def conL(f:V->Option Value):List V->Option (List Value)
 |[]=>some []
 |x::l=>match f x with|some v=>(match conL f l with|some r=>some (v::r)|none=>none)|none=>none
def conV:Nat->V->Option Value
 |0,_=>none
 |n+1,v=>match v with
  | .con v=>some v
  | .agg cs=>(match conL (conV n) cs with|some l=>some (.agg l.toArray)|none=>none)
  |_=>none
theorem conL_at{f:V->Option Value}:∀{cs:List V} {l:List Value},conL f cs=some l->l.length=cs.length/\∀(i:Nat) c v,cs[i]? = some c->l[i]? = some v->f c=some v
 |[],l,h=>by simp[conL] at h;subst h;simp
 |x::cs,l,h=>by
  simp only[conL] at h
  split at h
  ·rename_i y hy
   split at h
   ·rename_i q hq
    simp at h;subst h
    obtain⟨h1,h2⟩:=conL_at hq
    refine⟨by simp[h1],fun i c v a b=>?_⟩
    cases i with
    |zero=>simp at a b;subst a;subst b;exact hy
    |succ i=>exact h2 i c v (by simpa using a) (by simpa using b)
   ·simp at h
  ·simp at h
theorem conV_ok{m:Mem}{β:Locs}:∀{n:Nat} {v:V} {x y:Value},conV n v=some x->VRel m β v y->y=x
 |0,v,x,y,h=>by simp[conV] at h
 |n+1,v,x,y,h=>by
  intro hv
  cases v with
  |con c=>simp[conV] at h;subst h;exact hv.of_con
  |agg cs=>
   simp only[conV] at h
   split at h
   ·rename_i l hl
    simp at h;subst h
    obtain⟨vs,rfl,h2,h3⟩:=agg_inv hv
    obtain⟨a1,a2⟩:=conL_at hl
    congr 1
    apply Array.ext
    ·simp[a1,h2]
    ·intro i hi hj
     have hic:i<cs.length:=by rw[h2];exact hi
     have hil:i<l.length:=by rw[a1];exact hic
     have:=conV_ok (a2 i _ _ (List.getElem?_eq_getElem hic) (List.getElem?_eq_getElem hil)) (h3 i _ _ (List.getElem?_eq_getElem hic) (Array.getElem?_eq_getElem hi))
     simpa using this
   ·simp at h
  |_=>simp[conV] at h
theorem irel_agg{m:Mem}(l:List Value):IRel m (.agg (l.map .con)) (.agg l.toArray):=.agg (by simp) fun i c v a b=>by
 simp only[List.getElem?_map,List.getElem?_toArray] at a b
 rw[b] at a
 simp at a;subst a;exact .con _
def unC:Value->V
 | .agg vs=>.agg (vs.toList.map .con)
 |v=>.con v
theorem unC_ok{m:Mem}{β:Locs}(v:Value):VRel m β (unC v) v:=by
 cases v with
 |agg vs=>
  refine .imm (.agg (by simp) fun i c u a b=>?_)
  simp only[List.getElem?_map,Array.getElem?_toList,b,Option.map_some,Option.some.injEq] at a
  subst a;exact .con _
 |_=>exact .imm (.con _)
section
variable{K:Ctx}{Q:Post}{S S':St}{ops:Array Oper}{rest:List Oper}{t:TT}{ty:TypeId}{pos:String}{after:Array Edge}{g:Option (Nat×Bool)}
theorem aops_mkIface{d n:Nat}{T:TypeId}{x:Operand}{v:V}{c:Value}(hT:K.P.concrete T=true)(hw:Wants ops S ⟨some d,.makeInterface T x,ty,pos,after,g⟩ true)(hx:evl K S x=v)(hc:conV n v=some c)(hN:Nat.blt d K.N=true)
  (k:AOps K ops rest Q (S.put d (.con (.iface T c)))):AOps K ops (⟨some d,.makeInterface T x,ty,pos,after,g⟩::rest) Q S:=
 aops_val _ hw hN (fun m β w a r=>by
  have:=r.reads x
  rw[hx] at this
  have:=conV_ok hc this
  exact⟨.iface T c,by simp only[execOp,this];exact run_value (Go.run_makeInterface w T c hT),.imm (.con _)⟩) k
def clI(t:TT)(e:Env):Op->Option (Nat×List V)
 | .call c=>(match c.callee with
  | .invoke x name=>(match evC e x with
   |some (.con (.iface T v))=>(match ask t T (TF.qM name) with
    |some f=>(match evL e c.args.toList with
     |some vs=>(match frc (unC v::vs) with|some r=>some (f,r)|none=>none)
     |none=>none)
    |none=>none)
   |_=>none)
  | .value x=>(match evC e x with
   |some (.con (.func (.method name) first caps))=>(match first.toList,caps.toList with
    |[.iface T v],[]=>(match ask t T (TF.qM name) with
     |some f=>(match evL e c.args.toList with
      |some vs=>(match frc (unC v::vs) with|some r=>some (f,r)|none=>none)
      |none=>none)
     |none=>none)
    |_,_=>none)
   |_=>none)
  |_=>none)
 |_=>none
theorem evL_at{e:Env}(ha:Ag e S):∀{l:List Operand} {vs:List V},evL e l=some vs->vs=l.map (evl K S):=fun h=>(evL_ok ha h).symm
theorem clI_run0(ht:TTok K.P t){e:Env}(ha:Ag e S){o:Oper}{f:Nat}{avs:List V}(h:clI t e o.op=some (f,avs)):
  ∀m β w a,Rel K m β w a S->∃vs:Array Value,(execOp a.eval o).run K.P w=.ok (.enter f vs) w/\VRels m β avs vs:=by
 obtain⟨dst,op,ty',pos,after,g⟩:=o
 cases op<;>simp only[clI,reduceCtorEq] at h
 rename_i c
 obtain⟨callee,args,at'⟩:=c
 simp only at h
 split at h
 ·rename_i x name
  split at h
  ·rename_i T v hx
   split at h
   ·rename_i f' hm
    split at h
    ·rename_i vs hv
     split at h
     ·rename_i q hq
      simp only[Option.some.injEq,Prod.mk.injEq] at h
      obtain⟨rfl,rfl⟩:=h
      have hq:=frc_ok hq
      have hv:=evL_at (K:=K) ha hv
      have hmm:=(askM ht hm).1
      subst hq
      intro m β w a r
      have hr:=r.con (evC_ok (K:=K) ha hx)
      refine⟨#[v]++args.map a.eval,?_,?_⟩
      ·have:(execOp a.eval ⟨dst,.call ⟨.invoke x name,args,at'⟩,ty',pos,after,g⟩)=callMethod (.iface T v) name (args.map a.eval):=by
        simp only[execOp,resolve,hr,pure_bind]
        show invoke (.fn (.method name) #[]) (#[Value.iface T v]++args.map a.eval)=_
        simp only[invoke]
        rw[show(#[Value.iface T v]++args.map a.eval)[0]? = some (Value.iface T v) by rw[Array.getElem?_append_left (by simp)];rfl]
        simp only
        congr 1
        apply Array.ext'
        simp
        exact List.take_of_length_le (by simp)
       rw[this]
       exact hmm v (args.map a.eval) w
      ·refine⟨by simp[hv];omega,fun i c u h1 h2=>?_⟩
       cases i with
       |zero=>
        rw[Array.getElem?_append_left (by simp)] at h2
        simp at h1 h2;subst h1;subst h2;exact unC_ok v
       |succ i=>
        simp only[List.getElem?_cons_succ,hv,List.getElem?_map,Array.getElem?_toList] at h1
        rw[Array.getElem?_append_right (by simp)] at h2
        simp only[List.size_toArray,List.length_cons,List.length_nil,Nat.zero_add,Nat.add_sub_cancel,Array.getElem?_map] at h2
        cases ho:args[i]? with
        |none=>rw[ho] at h1;simp at h1
        |some y=>
         rw[ho] at h1 h2
         simp at h1 h2
         subst h1;subst h2
         exact r.reads y
     ·simp at h
    ·simp at h
   ·simp at h
  ·simp at h
 ·rename_i x
  split at h
  ·rename_i name first caps hx
   split at h
   ·rename_i T v hf1 hc1
    have hf1:=toList_one hf1
    have hc1:=toList_nil hc1
    subst hf1 hc1
    split at h
    ·rename_i f' hm
     split at h
     ·rename_i vs hv
      split at h
      ·rename_i q hq
       simp only[Option.some.injEq,Prod.mk.injEq] at h
       obtain⟨rfl,rfl⟩:=h
       have hq:=frc_ok hq
       have hv:=evL_at (K:=K) ha hv
       have hmm:=(askM ht hm).1
       subst hq
       intro m β w a r
       have hr:=r.con (evC_ok (K:=K) ha hx)
       refine⟨#[v]++args.map a.eval,?_,?_⟩
       ·have:(execOp a.eval ⟨dst,.call ⟨.value x,args,at'⟩,ty',pos,after,g⟩)=callMethod (.iface T v) name (args.map a.eval):=by
         simp only[execOp,resolve,hr,Deferred.ofValue,pure_bind]
         show invoke (.fn (.method name) #[]) (#[Value.iface T v]++args.map a.eval)=_
         simp only[invoke]
         rw[show(#[Value.iface T v]++args.map a.eval)[0]? = some (Value.iface T v) by rw[Array.getElem?_append_left (by simp)];rfl]
         simp only
         congr 1
         apply Array.ext'
         simp
         exact List.take_of_length_le (by simp)
        rw[this]
        exact hmm v (args.map a.eval) w
       ·refine⟨by simp[hv];omega,fun i c u h1 h2=>?_⟩
        cases i with
        |zero=>
         rw[Array.getElem?_append_left (by simp)] at h2
         simp at h1 h2;subst h1;subst h2;exact unC_ok v
        |succ i=>
         simp only[List.getElem?_cons_succ,hv,List.getElem?_map,Array.getElem?_toList] at h1
         rw[Array.getElem?_append_right (by simp)] at h2
         simp only[List.size_toArray,List.length_cons,List.length_nil,Nat.zero_add,Nat.add_sub_cancel,Array.getElem?_map] at h2
         cases ho:args[i]? with
         |none=>rw[ho] at h1;simp at h1
         |some y=>
          rw[ho] at h1 h2
          simp at h1 h2
          subst h1;subst h2
          exact r.reads y
      ·simp at h
     ·simp at h
    ·simp at h
   ·simp at h
  ·simp at h
 ·simp at h
theorem aops_mkMeth{d:Nat}{name:String}{x:Operand}{iv:Value}(hw:Wants ops S ⟨some d,.makeFunc (.method name) #[x] #[],ty,pos,after,g⟩ true)(hx:evl K S x=.con iv)(hN:Nat.blt d K.N=true)
  (k:AOps K ops rest Q (S.put d (.con (.func (.method name) #[iv] #[])))):AOps K ops (⟨some d,.makeFunc (.method name) #[x] #[],ty,pos,after,g⟩::rest) Q S:=
 aops_val _ hw hN (fun m β w a r=>⟨.func (.method name) #[iv] #[],by simp only[execOp];exact run_value (by simp[Instr.makeFunc,pure,r.con hx]),.imm (.con _)⟩) k
theorem aops_nilMeth{d:Nat}{name:String}{x:Operand}{T:TypeId}{v:Value}(hT:∀(v:Value) (w:World),(nilAhead (K.P.types.size+Made.depth) T v name).run K.P w=.ok (some false) w)(hw:Wants ops S ⟨some d,.nilCheck x,ty,pos,after,g⟩ true)(hx:evl K S x=.con (.func (.method name) #[.iface T v] #[]))(hN:Nat.blt d K.N=true)
  (k:AOps K ops rest Q (S.put d (.con (.func (.method name) #[.iface T v] #[])))):AOps K ops (⟨some d,.nilCheck x,ty,pos,after,g⟩::rest) Q S:=
 aops_val _ hw hN (fun m β w a r=>⟨.func (.method name) #[.iface T v] #[],by
  simp only[execOp,r.con hx]
  simp[Sem.run_bind,hT,Result.andThen,pure],.imm (.con _)⟩) k
theorem run_eqNilM{P:Program}{w:World}{T:TypeId}{x y:Operand}(neg:Bool)(hT:tyMp P T=true)(b:Option Nat):
      (do eqGuard (if neg then .neq else .eql) T x y (.map b) (.map none);binOp (if neg then .neq else .eql) T (.map b) (.map none):Sem Value).run P w=.ok (.bool (if neg then !b.isNone else b.isNone)) w:=by
  obtain⟨k,e,hu⟩:∃k e,P.underlying T=some (.map k e):=by
    unfold tyMp at hT
    split at hT
    · exact⟨_,_,‹_›⟩
    · simp at hT
  have hd:(10000:Nat)=9999+1:=rfl
  have hg:∀op:BinOp,(eqGuard op T x y (.map b) (.map none)).run P w=.ok () w:=by
    intro op;unfold eqGuard;cases op<;>simp[pure]
  have hq:(Op.equal T (.map b) (.map none)).run P w=.ok b.isNone w:=by
    rw[Op.equal,Op.maxDepth,hd,Op.equalIn]
    simp only[Sem.run_bind,run_underlying hu,Result.andThen_ok]
    cases b<;>rfl
  rw[Sem.run_bind,hg,Result.andThen_ok]
  cases neg
  · simp only[Bool.false_eq_true,if_false,binOp,Sem.run_bind,hq,Result.andThen_ok];rfl
  · simp only[if_true,binOp,Sem.run_bind,hq,Result.andThen_ok];rfl
def mapNil:V->Option Bool
 | .con (.map none)=>some true
 | .map _=>some false
 |_=>none
theorem aops_eqNilM{d:Nat}{x y:Operand}{T T':TypeId}{v:V}{b:Bool}(neg:Bool)(hT:tyMp K.P T=true)(hw:Wants ops S ⟨some d,.binOp (if neg then .neq else .eql) T x y T',ty,pos,after,g⟩ true)
  (hx:evl K S x=v) (hv:mapNil v=some b) (hy:evl K S y=.con (.map none)) (hN:Nat.blt d K.N=true)
  (k:AOps K ops rest Q (S.put d (.con (.bool (if neg then !b else b))))):AOps K ops (⟨some d,.binOp (if neg then .neq else .eql) T x y T',ty,pos,after,g⟩::rest) Q S:=
 aops_val _ hw hN (fun m β w a r=>by
  have h:=r.reads x
  rw[hx] at h
  have key:∃o,a.eval x=.map o/\o.isNone=b:=by
   generalize a.eval x=u at h
   unfold mapNil at hv
   split at hv
   ·simp at hv;subst hv;exact⟨none,h.of_con,rfl⟩
   ·simp at hv;subst hv
    cases h with
    |imm h=>cases h
    |map hb=>exact⟨_,rfl,rfl⟩
   ·simp at hv
  obtain⟨o,ho,hb⟩:=key
  have hr:=run_eqNilM (P:=K.P) (w:=w) (x:=x) (y:=y) neg hT o
  refine⟨.bool (if neg then !b else b),?_,.imm (.con _)⟩
  simp only[execOp,ho,r.con hy]
  rw[<-hb]
  exact run_value hr) k
end
end Go.Pv
