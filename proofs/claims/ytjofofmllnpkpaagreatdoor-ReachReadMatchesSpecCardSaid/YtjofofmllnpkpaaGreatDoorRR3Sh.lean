/- Part of the proof: RTr, REr, R3Sh. -/
import Derived.Test.YtjofofmllnpkpaaGreatDoorREW
import Derived.Test.YtjofofmllnpkpaaGreatDoorProg
import Derived.KernelRfl
import Derived.Shelf.Strings.Builder1
import Derived.Shelf.Strconv.Itoa0
import Derived.Shelf.Strings.Search1
import Derived.Shelf.Strings.Search2
import Derived.Shelf.Strings.Search3
import Derived.Shelf.Strings.Cut
import Derived.Shelf.Strings.Count
import Derived.Shelf.LaysM
import Derived.Shelf.Strings.Shaped
import Derived.Shelf.Sort.Plain
import Derived.Shelf.Strings.Split
import Derived.Shelf.Unicode.DecodeSlow
import Derived.Shelf.Slices.Turned
import Derived.Shelf.Slices.In.SortNone
import Derived.Ground.SlgnProg
import Derived.Shelf.SlicesE.Equal
import Derived.Ground.SlsfProg
import Derived.Shelf.SlSortCmp.WholeK
import Derived.Shelf.SlSortCmp.NoneTotal
namespace Go.Proofs.YtjofofmllnpkpaaGreatDoor
open Go Go.Pv
set_option maxRecDepth 100000
noncomputable def evft:FT:=[(8,Tryz.f8),(15,Tryz.f15),(24,Tryz.f24),(31,Tryz.f31),(42,Tryz.f42),(60,Tryz.f60),(61,Tryz.f61),(68,Tryz.f68),(69,Tryz.f69),(77,Tryz.f77),(89,Tryz.f89),(90,Tryz.f90),(91,Tryz.f91),(92,Tryz.f92),(99,Tryz.f99),(100,Tryz.f100),(101,Tryz.f101),(102,Tryz.f102),(103,Tryz.f103),(125,Tryz.f125),(126,Tryz.f126),(127,Tryz.f127),(134,Tryz.f134),(135,Tryz.f135),(136,Tryz.f136),(169,Tryz.f169),(172,Tryz.f172),(173,Tryz.f173),(185,Tryz.f185),(186,Tryz.f186),(187,Tryz.f187)]
theorem evft_ok:FTok Tryz.prog evft:=by
 intro p hp
 simp only[evft,List.mem_cons,List.not_mem_nil,or_false] at hp
 rcases hp with rfl|rfl|rfl|rfl|rfl|rfl|rfl|rfl|rfl|rfl|rfl|rfl|rfl|rfl|rfl|rfl|rfl|rfl|rfl|rfl|rfl|rfl|rfl|rfl|rfl|rfl|rfl|rfl|rfl|rfl|rfl
 ·exact⟨Tryz.func8,by kernel_rfl⟩
 ·exact⟨Tryz.func15,by kernel_rfl⟩
 ·exact⟨Tryz.func24,by kernel_rfl⟩
 ·exact⟨Tryz.func31,by kernel_rfl⟩
 ·exact⟨Tryz.func42,by kernel_rfl⟩
 ·exact⟨Tryz.func60,by kernel_rfl⟩
 ·exact⟨Tryz.func61,by kernel_rfl⟩
 ·exact⟨Tryz.func68,by kernel_rfl⟩
 ·exact⟨Tryz.func69,by kernel_rfl⟩
 ·exact⟨Tryz.func77,by kernel_rfl⟩
 ·exact⟨Tryz.func89,by kernel_rfl⟩
 ·exact⟨Tryz.func90,by kernel_rfl⟩
 ·exact⟨Tryz.func91,by kernel_rfl⟩
 ·exact⟨Tryz.func92,by kernel_rfl⟩
 ·exact⟨Tryz.func99,by kernel_rfl⟩
 ·exact⟨Tryz.func100,by kernel_rfl⟩
 ·exact⟨Tryz.func101,by kernel_rfl⟩
 ·exact⟨Tryz.func102,by kernel_rfl⟩
 ·exact⟨Tryz.func103,by kernel_rfl⟩
 ·exact⟨Tryz.func125,by kernel_rfl⟩
 ·exact⟨Tryz.func126,by kernel_rfl⟩
 ·exact⟨Tryz.func127,by kernel_rfl⟩
 ·exact⟨Tryz.func134,by kernel_rfl⟩
 ·exact⟨Tryz.func135,by kernel_rfl⟩
 ·exact⟨Tryz.func136,by kernel_rfl⟩
 ·exact⟨Tryz.func169,by kernel_rfl⟩
 ·exact⟨Tryz.func172,by kernel_rfl⟩
 ·exact⟨Tryz.func173,by kernel_rfl⟩
 ·exact⟨Tryz.func185,by kernel_rfl⟩
 ·exact⟨Tryz.func186,by kernel_rfl⟩
 ·exact⟨Tryz.func187,by kernel_rfl⟩
def evtt:TT:=[(3,[.C,.Z 1 [.int .i64 0],.U,.I .i64]),(4,[.C,.Z 1 [.bool false],.S 1]),(9,[.Z 1 [.string ⟨#[]⟩],.C,.Str]),(22,[.C,.Sn,.Sl 2]),(23,[.C,.Sn,.Sl 2]),(24,[.El 71 4 80,.C,.Sl 4,.Sn]),(25,[.El 9 1 16,.Sn,.Sl 1,.C]),(27,[.Z 4 [.slice none 0 0,.slice none 0 0,.slice none 0 0,.slice none 0 0],.Pl [(0,1),(1,1),(2,1),(3,1)],.S 4,.A 4,.F 2 2,.F 0 0,.F 1 1,.F 3 3]),(56,[.A 2,.Z 2 [.string ⟨#[]⟩,.slice none 0 0],.S 2,.F 0 0,.F 1 1]),(59,[.C,.Sn,.Sl 2]),(61,[.A 2,.Z 2 [.string ⟨#[]⟩,.slice none 0 0],.S 2,.F 0 0,.F 1 1]),(64,[.A 2,.Z 2 [.string ⟨#[]⟩,.string ⟨#[]⟩],.S 2,.F 0 0,.F 1 1]),(69,[.El 74 4 56,.C,.Sn,.Sl 4]),(71,[.Z 4 [.string ⟨#[]⟩,.string ⟨#[]⟩,.slice none 0 0,.slice none 0 0],.Pl [(0,1),(1,1),(2,1),(3,1)],.F 0 0,.A 4,.S 4,.F 3 3,.F 2 2,.F 1 1]),(74,[.Z 4 [.int .i64 0,.string ⟨#[]⟩,.string ⟨#[]⟩,.string ⟨#[]⟩],.Pl [(0,1),(1,1),(2,1),(3,1)],.A 4,.S 4,.F 3 3,.F 0 0,.F 1 1,.F 2 2]),(114,[.C]),(115,[.C]),(117,[.A 4,.Z 4 [.bool false,.map none,.map none,.map none],.Pl [(0,1),(1,1),(2,1),(3,1)],.S 4,.F 1 1,.F 2 2,.F 3 3,.F 0 0]),(120,[.C,.Sn,.Sl 1,.S 1,.El 3 1 8]),(130,[.C]),(133,[.C,.Sn,.Sl 1,.El 4 1 1]),(134,[.C]),(135,[.C,.Sn,.Sl 2,.El 200 2 32,.S 1]),(137,[.F 1 1,.Z 7 [.pointer none,.slice none 0 0,.slice none 0 0,.map none,.slice none 0 0,.slice none 0 0,.slice none 0 0],.Pl [(0,1),(1,1),(2,1),(3,1),(4,1),(5,1),(6,1)],.S 7,.F 6 6,.F 2 2,.F 0 0,.F 4 4,.F 3 3]),(149,[.I .u64,.U]),(166,[.C]),(167,[.C]),(169,[.F 0 0,.F 1 4,.F 2 5,.F 4 7,.Z 9 [.slice none 0 0,.slice none 0 0,.slice none 0 0,.slice none 0 0,.map none,.map none,.map none,.map none,.bool false],.Pl [(0,4),(4,1),(5,1),(6,1),(7,1),(8,1)],.S 9,.F 3 6,.F 5 8]),(200,[.A 2,.Z 2 [.string ⟨#[]⟩,.string ⟨#[]⟩],.S 2,.F 0 0,.F 1 1,.Pl [(0,1),(1,1)]])]
theorem evtt_ok:TTok Tryz.prog evtt:=tt_all ⟨⟨(by kernel_rfl:tyC Tryz.prog 3=true),⟨(by kernel_rfl:zeroCells Tryz.prog 3=some [.int .i64 0]),rfl⟩,(by kernel_rfl:tyU Tryz.prog 3=true),(by kernel_rfl:tyI Tryz.prog 3 .i64=true),trivial⟩,⟨(by kernel_rfl:tyC Tryz.prog 4=true),⟨(by kernel_rfl:zeroCells Tryz.prog 4=some [.bool false]),rfl⟩,(by kernel_rfl:tyS Tryz.prog 4 1=true),trivial⟩,⟨⟨(by kernel_rfl:zeroCells Tryz.prog 9=some [.string ⟨#[]⟩]),rfl⟩,(by kernel_rfl:tyC Tryz.prog 9=true),(by kernel_rfl:tyStr Tryz.prog 9=true),trivial⟩,⟨(by kernel_rfl:tyC Tryz.prog 22=true),(by kernel_rfl:tySlice Tryz.prog 22=true),(by kernel_rfl:tySl Tryz.prog 22 2=true),trivial⟩,⟨(by kernel_rfl:tyC Tryz.prog 23=true),(by kernel_rfl:tySlice Tryz.prog 23=true),(by kernel_rfl:tySl Tryz.prog 23 2=true),trivial⟩,⟨(by kernel_rfl:tyEl Tryz.prog 24 71 4 80=true),(by kernel_rfl:tyC Tryz.prog 24=true),(by kernel_rfl:tySl Tryz.prog 24 4=true),(by kernel_rfl:tySlice Tryz.prog 24=true),trivial⟩,⟨(by kernel_rfl:tyEl Tryz.prog 25 9 1 16=true),(by kernel_rfl:tySlice Tryz.prog 25=true),(by kernel_rfl:tySl Tryz.prog 25 1=true),(by kernel_rfl:tyC Tryz.prog 25=true),trivial⟩,⟨⟨(by kernel_rfl:zeroCells Tryz.prog 27=some [.slice none 0 0,.slice none 0 0,.slice none 0 0,.slice none 0 0]),rfl⟩,(by kernel_rfl:tyPlaces Tryz.prog 27=some [(0,1),(1,1),(2,1),(3,1)]),(by kernel_rfl:tyS Tryz.prog 27 4=true),(by kernel_rfl:tyA Tryz.prog 27 4=true),(by kernel_rfl:tyF Tryz.prog 27 2 2=true),(by kernel_rfl:tyF Tryz.prog 27 0 0=true),(by kernel_rfl:tyF Tryz.prog 27 1 1=true),(by kernel_rfl:tyF Tryz.prog 27 3 3=true),trivial⟩,⟨(by kernel_rfl:tyA Tryz.prog 56 2=true),⟨(by kernel_rfl:zeroCells Tryz.prog 56=some [.string ⟨#[]⟩,.slice none 0 0]),rfl⟩,(by kernel_rfl:tyS Tryz.prog 56 2=true),(by kernel_rfl:tyF Tryz.prog 56 0 0=true),(by kernel_rfl:tyF Tryz.prog 56 1 1=true),trivial⟩,⟨(by kernel_rfl:tyC Tryz.prog 59=true),(by kernel_rfl:tySlice Tryz.prog 59=true),(by kernel_rfl:tySl Tryz.prog 59 2=true),trivial⟩,⟨(by kernel_rfl:tyA Tryz.prog 61 2=true),⟨(by kernel_rfl:zeroCells Tryz.prog 61=some [.string ⟨#[]⟩,.slice none 0 0]),rfl⟩,(by kernel_rfl:tyS Tryz.prog 61 2=true),(by kernel_rfl:tyF Tryz.prog 61 0 0=true),(by kernel_rfl:tyF Tryz.prog 61 1 1=true),trivial⟩,⟨(by kernel_rfl:tyA Tryz.prog 64 2=true),⟨(by kernel_rfl:zeroCells Tryz.prog 64=some [.string ⟨#[]⟩,.string ⟨#[]⟩]),rfl⟩,(by kernel_rfl:tyS Tryz.prog 64 2=true),(by kernel_rfl:tyF Tryz.prog 64 0 0=true),(by kernel_rfl:tyF Tryz.prog 64 1 1=true),trivial⟩,⟨(by kernel_rfl:tyEl Tryz.prog 69 74 4 56=true),(by kernel_rfl:tyC Tryz.prog 69=true),(by kernel_rfl:tySlice Tryz.prog 69=true),(by kernel_rfl:tySl Tryz.prog 69 4=true),trivial⟩,⟨⟨(by kernel_rfl:zeroCells Tryz.prog 71=some [.string ⟨#[]⟩,.string ⟨#[]⟩,.slice none 0 0,.slice none 0 0]),rfl⟩,(by kernel_rfl:tyPlaces Tryz.prog 71=some [(0,1),(1,1),(2,1),(3,1)]),(by kernel_rfl:tyF Tryz.prog 71 0 0=true),(by kernel_rfl:tyA Tryz.prog 71 4=true),(by kernel_rfl:tyS Tryz.prog 71 4=true),(by kernel_rfl:tyF Tryz.prog 71 3 3=true),(by kernel_rfl:tyF Tryz.prog 71 2 2=true),(by kernel_rfl:tyF Tryz.prog 71 1 1=true),trivial⟩,⟨⟨(by kernel_rfl:zeroCells Tryz.prog 74=some [.int .i64 0,.string ⟨#[]⟩,.string ⟨#[]⟩,.string ⟨#[]⟩]),rfl⟩,(by kernel_rfl:tyPlaces Tryz.prog 74=some [(0,1),(1,1),(2,1),(3,1)]),(by kernel_rfl:tyA Tryz.prog 74 4=true),(by kernel_rfl:tyS Tryz.prog 74 4=true),(by kernel_rfl:tyF Tryz.prog 74 3 3=true),(by kernel_rfl:tyF Tryz.prog 74 0 0=true),(by kernel_rfl:tyF Tryz.prog 74 1 1=true),(by kernel_rfl:tyF Tryz.prog 74 2 2=true),trivial⟩,⟨(by kernel_rfl:tyC Tryz.prog 114=true),trivial⟩,⟨(by kernel_rfl:tyC Tryz.prog 115=true),trivial⟩,⟨(by kernel_rfl:tyA Tryz.prog 117 4=true),⟨(by kernel_rfl:zeroCells Tryz.prog 117=some [.bool false,.map none,.map none,.map none]),rfl⟩,(by kernel_rfl:tyPlaces Tryz.prog 117=some [(0,1),(1,1),(2,1),(3,1)]),(by kernel_rfl:tyS Tryz.prog 117 4=true),(by kernel_rfl:tyF Tryz.prog 117 1 1=true),(by kernel_rfl:tyF Tryz.prog 117 2 2=true),(by kernel_rfl:tyF Tryz.prog 117 3 3=true),(by kernel_rfl:tyF Tryz.prog 117 0 0=true),trivial⟩,⟨(by kernel_rfl:tyC Tryz.prog 120=true),(by kernel_rfl:tySlice Tryz.prog 120=true),(by kernel_rfl:tySl Tryz.prog 120 1=true),(by kernel_rfl:tyS Tryz.prog 120 1=true),(by kernel_rfl:tyEl Tryz.prog 120 3 1 8=true),trivial⟩,⟨(by kernel_rfl:tyC Tryz.prog 130=true),trivial⟩,⟨(by kernel_rfl:tyC Tryz.prog 133=true),(by kernel_rfl:tySlice Tryz.prog 133=true),(by kernel_rfl:tySl Tryz.prog 133 1=true),(by kernel_rfl:tyEl Tryz.prog 133 4 1 1=true),trivial⟩,⟨(by kernel_rfl:tyC Tryz.prog 134=true),trivial⟩,⟨(by kernel_rfl:tyC Tryz.prog 135=true),(by kernel_rfl:tySlice Tryz.prog 135=true),(by kernel_rfl:tySl Tryz.prog 135 2=true),(by kernel_rfl:tyEl Tryz.prog 135 200 2 32=true),(by kernel_rfl:tyS Tryz.prog 135 1=true),trivial⟩,⟨(by kernel_rfl:tyF Tryz.prog 137 1 1=true),⟨(by kernel_rfl:zeroCells Tryz.prog 137=some [.pointer none,.slice none 0 0,.slice none 0 0,.map none,.slice none 0 0,.slice none 0 0,.slice none 0 0]),rfl⟩,(by kernel_rfl:tyPlaces Tryz.prog 137=some [(0,1),(1,1),(2,1),(3,1),(4,1),(5,1),(6,1)]),(by kernel_rfl:tyS Tryz.prog 137 7=true),(by kernel_rfl:tyF Tryz.prog 137 6 6=true),(by kernel_rfl:tyF Tryz.prog 137 2 2=true),(by kernel_rfl:tyF Tryz.prog 137 0 0=true),(by kernel_rfl:tyF Tryz.prog 137 4 4=true),(by kernel_rfl:tyF Tryz.prog 137 3 3=true),trivial⟩,⟨(by kernel_rfl:tyI Tryz.prog 149 .u64=true),(by kernel_rfl:tyU Tryz.prog 149=true),trivial⟩,⟨(by kernel_rfl:tyC Tryz.prog 166=true),trivial⟩,⟨(by kernel_rfl:tyC Tryz.prog 167=true),trivial⟩,⟨(by kernel_rfl:tyF Tryz.prog 169 0 0=true),(by kernel_rfl:tyF Tryz.prog 169 1 4=true),(by kernel_rfl:tyF Tryz.prog 169 2 5=true),(by kernel_rfl:tyF Tryz.prog 169 4 7=true),⟨(by kernel_rfl:zeroCells Tryz.prog 169=some [.slice none 0 0,.slice none 0 0,.slice none 0 0,.slice none 0 0,.map none,.map none,.map none,.map none,.bool false]),rfl⟩,(by kernel_rfl:tyPlaces Tryz.prog 169=some [(0,4),(4,1),(5,1),(6,1),(7,1),(8,1)]),(by kernel_rfl:tyS Tryz.prog 169 9=true),(by kernel_rfl:tyF Tryz.prog 169 3 6=true),(by kernel_rfl:tyF Tryz.prog 169 5 8=true),trivial⟩,⟨(by kernel_rfl:tyA Tryz.prog 200 2=true),⟨(by kernel_rfl:zeroCells Tryz.prog 200=some [.string ⟨#[]⟩,.string ⟨#[]⟩]),rfl⟩,(by kernel_rfl:tyS Tryz.prog 200 2=true),(by kernel_rfl:tyF Tryz.prog 200 0 0=true),(by kernel_rfl:tyF Tryz.prog 200 1 1=true),(by kernel_rfl:tyPlaces Tryz.prog 200=some [(0,1),(1,1)]),trivial⟩,trivial⟩
def evmt:List MT:=[⟨114,9,56,true,.i64,.agg [.con (.string ⟨#[]⟩),.con (.slice none 0 0)]⟩,⟨115,9,4,true,.i64,.con (.bool false)⟩,⟨166,9,3,true,.i64,.con (.int .i64 0)⟩,⟨167,9,120,true,.i64,.con (.slice none 0 0)⟩]
theorem evmt_ok:MTok Tryz.prog evmt:=by
 intro p hp
 simp only[evmt,List.mem_cons,List.not_mem_nil,or_false] at hp
 rcases hp with rfl|rfl|rfl|rfl
 ·exact⟨by kernel_rfl,keyT_str (by kernel_rfl),_,by kernel_rfl,fun _=>(irel_agg [Value.string ⟨#[]⟩,Value.slice none 0 0])⟩
 ·exact⟨by kernel_rfl,keyT_str (by kernel_rfl),_,by kernel_rfl,fun _=>(.con _)⟩
 ·exact⟨by kernel_rfl,keyT_str (by kernel_rfl),_,by kernel_rfl,fun _=>(.con _)⟩
 ·exact⟨by kernel_rfl,keyT_str (by kernel_rfl),_,by kernel_rfl,fun _=>(.con _)⟩
def evxt:XT:=[]
theorem evxt_ok{gl:Gl}:XTok gl Tryz.prog evxt:=by intro p hp;simp[evxt] at hp
theorem kmixed:Tryz.prog.follows .mixedOrders=true:=by kernel_rfl
theorem told_run:evF evft evxt evtt evmt 3000 8 []=some (.con (.bool true)):=by kernel_rfl
theorem told_pure{gl:Gl}:PureG gl Tryz.prog 8 [] (bV true):=evF_ok evft_ok evxt_ok evtt_ok evmt_ok kmixed told_run
end Go.Proofs.YtjofofmllnpkpaaGreatDoor
/-
 DERIVED: THE SHELF's CONTRACTS AT THIS DUMP, IN PLAIN WORDS (tools/lay-plain.mjs out of 'TryzShelf.lean', which tools/lay-shelf.mjs wrote): THE SAME DECLARATIONS UNDER THE SAME NAMES: 'import', 'namespace', 'open', 'def', 'theorem' AND NOTHING ELSE: no command of the shelf's: FOR A HAND-IN. Each laying: the table of numbers ('.._ren') and one theorem, a field a fact of the dump's own or the kernel's comparison; each contract: ONE APPLICATION.
-/
namespace Go.Proofs
open Go.Shelf
def Tryz.lays145_ren:Go.Shelf.Ren:=⟨fun|145=>16|220=>62|219=>93|217=>128|225=>129|224=>130|267=>131|266=>170|314=>171|n=>n,fun|9=>9|4=>4|59=>49|3=>3|5=>5|46=>149|146=>227|51=>189|n=>n,fun|1=>0|n=>n⟩
theorem Tryz.lays145:Go.Proofs.Lays.n145 Tryz.prog Tryz.lays145_ren:={
 mixed:=by kernel_rfl
 f145:=Tryz.func16.trans (congrArg some (by kernel_rfl))
 f217:=Tryz.func128.trans (congrArg some (by kernel_rfl))
 f219:=Tryz.func93.trans (congrArg some (by kernel_rfl))
 f220:=Tryz.func62.trans (congrArg some (by kernel_rfl))
 f224:=Tryz.func130.trans (congrArg some (by kernel_rfl))
 f225:=Tryz.func129.trans (congrArg some (by kernel_rfl))
 f266:=Tryz.func170.trans (congrArg some (by kernel_rfl))
 f267:=Tryz.func131.trans (congrArg some (by kernel_rfl))
 f314:=Tryz.func171.trans (congrArg some (by kernel_rfl))
 t3:=Tryz.underlying3
 a3:=Tryz.isAgg3
 z3:=Tryz.sizeOf3
 v3:=Tryz.zeroValue3
 t4:=Tryz.underlying4
 a4:=Tryz.isAgg4
 z4:=Tryz.sizeOf4
 v4:=Tryz.zeroValue4
 t5:=Tryz.underlying5
 a5:=Tryz.isAgg5
 z5:=Tryz.sizeOf5
 v5:=Tryz.zeroValue5
 t9:=Tryz.underlying9
 a9:=Tryz.isAgg9
 z9:=Tryz.sizeOf9
 v9:=Tryz.zeroValue9
 t46:=Tryz.underlying149
 a46:=Tryz.isAgg149
 z46:=Tryz.sizeOf149
 v46:=Tryz.zeroValue149
 t51:=Tryz.underlying189
 a51:=Tryz.isAgg189
 z51:=Tryz.sizeOf189
 v51:=Tryz.zeroValue189
 t59:=Tryz.underlying49
 a59:=Tryz.isAgg49
 z59:=Tryz.sizeOf49
 v59:=Tryz.zeroValue49
 t146:=Tryz.underlying227
 a146:=Tryz.isAgg227
 z146:=Tryz.sizeOf227
 v146:=Tryz.zeroValue227
 g1:=by kernel_rfl }
open Go.RowKit Go.Lib in
theorem Tryz.strings_Cut(s sep:ByteArray)(m:Int)(w:World)(hs:s.size<4294967281)(hm:w.cell? ⟨0,0,none⟩=some (.int .i64 m)):
  Calls Tryz.prog 16 #[.string s,.string sep] w fun e w'=>e=.returned (.tuple #[.string ⟨(Lib.cut s.data.toList sep.data.toList).1.toArray⟩,.string ⟨(Lib.cut s.data.toList sep.data.toList).2.1.toArray⟩,.bool (Lib.cut s.data.toList sep.data.toList).2.2])/\∃n,w'=w.drewN n:=Any.strings_Cut Tryz.lays145 s sep m w hs hm
def Tryz.laysM138_ren:Go.Shelf.Ren:=⟨fun|138=>73|195=>106|218=>108|143=>74|219=>93|217=>128|225=>129|224=>130|267=>131|266=>170|314=>171|n=>n,fun|9=>9|3=>3|4=>4|5=>5|0=>0|46=>149|146=>227|51=>189|n=>n,fun|1=>0|n=>n⟩
theorem Tryz.laysM138:Go.Proofs.LaysM.n138 Tryz.prog Tryz.laysM138_ren:={
 mixed:=by kernel_rfl
 f138:=Tryz.func73.trans (congrArg some (by kernel_rfl))
 f143:=Tryz.func74.trans (congrArg some (by kernel_rfl))
 f195:=Tryz.func106.trans (congrArg some (by kernel_rfl))
 f217:=Tryz.func128.trans (congrArg some (by kernel_rfl))
 f218:=Tryz.func108.trans (congrArg some (by kernel_rfl))
 f219:=Tryz.func93.trans (congrArg some (by kernel_rfl))
 f224:=Tryz.func130.trans (congrArg some (by kernel_rfl))
 f225:=Tryz.func129.trans (congrArg some (by kernel_rfl))
 f266:=Tryz.func170.trans (congrArg some (by kernel_rfl))
 f267:=Tryz.func131.trans (congrArg some (by kernel_rfl))
 f314:=Tryz.func171.trans (congrArg some (by kernel_rfl))
 t0:=Tryz.underlying0
 a0:=Tryz.isAgg0
 z0:=Tryz.sizeOf0
 v0:=Tryz.zeroValue0
 t3:=Tryz.underlying3
 a3:=Tryz.isAgg3
 z3:=Tryz.sizeOf3
 v3:=Tryz.zeroValue3
 t4:=Tryz.underlying4
 a4:=Tryz.isAgg4
 z4:=Tryz.sizeOf4
 v4:=Tryz.zeroValue4
 t5:=Tryz.underlying5
 a5:=Tryz.isAgg5
 z5:=Tryz.sizeOf5
 v5:=Tryz.zeroValue5
 t9:=Tryz.underlying9
 a9:=Tryz.isAgg9
 z9:=Tryz.sizeOf9
 v9:=Tryz.zeroValue9
 t46:=Tryz.underlying149
 a46:=Tryz.isAgg149
 z46:=Tryz.sizeOf149
 v46:=Tryz.zeroValue149
 t51:=Tryz.underlying189
 a51:=Tryz.isAgg189
 z51:=Tryz.sizeOf189
 v51:=Tryz.zeroValue189
 t146:=Tryz.underlying227
 a146:=Tryz.isAgg227
 z146:=Tryz.sizeOf227
 v146:=Tryz.zeroValue227
 g1:=by kernel_rfl
 i0:=by kernel_rfl
 i3:=by kernel_rfl
 i4:=by kernel_rfl
 i5:=by kernel_rfl
 i9:=by kernel_rfl
 i46:=by kernel_rfl
 i51:=by kernel_rfl
 i146:=by kernel_rfl
 m1:=by kernel_rfl
 s1_3:=fun w h=>Go.Proofs.cell_of_shapedOpen_int (zero:=#[.int .i64 0]) (t:=3) h (of_decide_eq_true (by kernel_rfl)) (by kernel_rfl) rfl (by kernel_rfl) (by kernel_rfl) Tryz.underlying3 }
def Tryz.lays190_ren:Go.Shelf.Ren:=⟨fun|190=>45|125=>79|258=>78|128=>120|129=>121|302=>111|303=>112|304=>113|305=>114|306=>115|307=>116|308=>117|309=>118|310=>119|333=>140|329=>141|330=>142|334=>143|335=>144|336=>77|344=>175|n=>n,fun|31=>25|9=>9|3=>3|46=>149|0=>0|51=>189|53=>191|4=>4|183=>181|182=>180|131=>186|5=>5|218=>204|222=>208|228=>237|229=>238|n=>n,fun|n=>n⟩
theorem Tryz.lays190:Go.Proofs.Lays.n190 Tryz.prog Tryz.lays190_ren:={
 mixed:=by kernel_rfl
 f125:=Tryz.func79.trans (congrArg some (by kernel_rfl))
 f128:=Tryz.func120.trans (congrArg some (by kernel_rfl))
 f129:=Tryz.func121.trans (congrArg some (by kernel_rfl))
 f190:=Tryz.func45.trans (congrArg some (by kernel_rfl))
 f258:=Tryz.func78.trans (congrArg some (by kernel_rfl))
 f302:=Tryz.func111.trans (congrArg some (by kernel_rfl))
 f303:=Tryz.func112.trans (congrArg some (by kernel_rfl))
 f304:=Tryz.func113.trans (congrArg some (by kernel_rfl))
 f305:=Tryz.func114.trans (congrArg some (by kernel_rfl))
 f306:=Tryz.func115.trans (congrArg some (by kernel_rfl))
 f307:=Tryz.func116.trans (congrArg some (by kernel_rfl))
 f308:=Tryz.func117.trans (congrArg some (by kernel_rfl))
 f309:=Tryz.func118.trans (congrArg some (by kernel_rfl))
 f310:=Tryz.func119.trans (congrArg some (by kernel_rfl))
 f329:=Tryz.func141.trans (congrArg some (by kernel_rfl))
 f330:=Tryz.func142.trans (congrArg some (by kernel_rfl))
 f333:=Tryz.func140.trans (congrArg some (by kernel_rfl))
 f334:=Tryz.func143.trans (congrArg some (by kernel_rfl))
 f335:=Tryz.func144.trans (congrArg some (by kernel_rfl))
 f336:=Tryz.func77.trans (congrArg some (by kernel_rfl))
 f344:=Tryz.func175.trans (congrArg some (by kernel_rfl))
 t0:=Tryz.underlying0
 a0:=Tryz.isAgg0
 z0:=Tryz.sizeOf0
 v0:=Tryz.zeroValue0
 t3:=Tryz.underlying3
 a3:=Tryz.isAgg3
 z3:=Tryz.sizeOf3
 v3:=Tryz.zeroValue3
 t4:=Tryz.underlying4
 a4:=Tryz.isAgg4
 z4:=Tryz.sizeOf4
 v4:=Tryz.zeroValue4
 t5:=Tryz.underlying5
 a5:=Tryz.isAgg5
 z5:=Tryz.sizeOf5
 v5:=Tryz.zeroValue5
 t9:=Tryz.underlying9
 a9:=Tryz.isAgg9
 z9:=Tryz.sizeOf9
 v9:=Tryz.zeroValue9
 t31:=Tryz.underlying25
 a31:=Tryz.isAgg25
 z31:=Tryz.sizeOf25
 v31:=Tryz.zeroValue25
 t46:=Tryz.underlying149
 a46:=Tryz.isAgg149
 z46:=Tryz.sizeOf149
 v46:=Tryz.zeroValue149
 t51:=Tryz.underlying189
 a51:=Tryz.isAgg189
 z51:=Tryz.sizeOf189
 v51:=Tryz.zeroValue189
 t53:=Tryz.underlying191
 a53:=Tryz.isAgg191
 z53:=Tryz.sizeOf191
 v53:=Tryz.zeroValue191
 t131:=Tryz.underlying186
 a131:=Tryz.isAgg186
 z131:=Tryz.sizeOf186
 v131:=Tryz.zeroValue186
 t182:=Tryz.underlying180
 a182:=Tryz.isAgg180
 z182:=Tryz.sizeOf180
 v182:=Tryz.zeroValue180
 t183:=Tryz.underlying181
 a183:=Tryz.isAgg181
 z183:=Tryz.sizeOf181
 v183:=Tryz.zeroValue181
 t218:=Tryz.underlying204
 a218:=Tryz.isAgg204
 z218:=Tryz.sizeOf204
 v218:=Tryz.zeroValue204
 t222:=Tryz.underlying208
 a222:=Tryz.isAgg208
 z222:=Tryz.sizeOf208
 v222:=Tryz.zeroValue208
 t228:=Tryz.underlying237
 a228:=Tryz.isAgg237
 z228:=Tryz.sizeOf237
 v228:=Tryz.zeroValue237
 t229:=Tryz.underlying238
 a229:=Tryz.isAgg238
 z229:=Tryz.sizeOf238
 v229:=Tryz.zeroValue238 }
open Go.Sort Go.RowKit in
theorem Tryz.slices_Sort_string(blk off cap:Nat)(ss:List (List UInt8))(w:World)(hH:Holds encStr w blk off ss.toArray)(hblk:blk<w.heap.size)(hsz:ss.length<4611686018427387904):
  Calls Tryz.prog 45 #[.slice (some ⟨blk,off,none⟩) ss.length cap] w fun e w'=>
   e=.returned (.tuple #[])/\∃n os,w'=grow (putRow encStr (Sort.ahead w n) blk off (ss.mergeSort fun x y=>decide (x<=y)).toArray) os:=Any.slices_Sort_string Tryz.lays190 blk off cap ss w hH hblk hsz
def Tryz.lays146_ren:Go.Shelf.Ren:=⟨fun|146=>11|221=>38|268=>72|138=>73|143=>74|195=>106|197=>107|218=>108|219=>93|260=>138|217=>128|225=>129|224=>130|267=>131|266=>170|314=>171|n=>n,fun|9=>9|31=>25|3=>3|4=>4|0=>0|105=>174|21=>21|5=>5|46=>149|119=>233|139=>236|138=>235|146=>227|51=>189|n=>n,fun|1=>0|3=>1|4=>2|n=>n⟩
theorem Tryz.lays146:Go.Proofs.Lays.n146 Tryz.prog Tryz.lays146_ren:={
 mixed:=by kernel_rfl
 f138:=Tryz.func73.trans (congrArg some (by kernel_rfl))
 f143:=Tryz.func74.trans (congrArg some (by kernel_rfl))
 f146:=Tryz.func11.trans (congrArg some (by kernel_rfl))
 f195:=Tryz.func106.trans (congrArg some (by kernel_rfl))
 f197:=Tryz.func107.trans (congrArg some (by kernel_rfl))
 f217:=Tryz.func128.trans (congrArg some (by kernel_rfl))
 f218:=Tryz.func108.trans (congrArg some (by kernel_rfl))
 f219:=Tryz.func93.trans (congrArg some (by kernel_rfl))
 f221:=Tryz.func38.trans (congrArg some (by kernel_rfl))
 f224:=Tryz.func130.trans (congrArg some (by kernel_rfl))
 f225:=Tryz.func129.trans (congrArg some (by kernel_rfl))
 f260:=Tryz.func138.trans (congrArg some (by kernel_rfl))
 f266:=Tryz.func170.trans (congrArg some (by kernel_rfl))
 f267:=Tryz.func131.trans (congrArg some (by kernel_rfl))
 f268:=Tryz.func72.trans (congrArg some (by kernel_rfl))
 f314:=Tryz.func171.trans (congrArg some (by kernel_rfl))
 t0:=Tryz.underlying0
 a0:=Tryz.isAgg0
 z0:=Tryz.sizeOf0
 v0:=Tryz.zeroValue0
 t3:=Tryz.underlying3
 a3:=Tryz.isAgg3
 z3:=Tryz.sizeOf3
 v3:=Tryz.zeroValue3
 t4:=Tryz.underlying4
 a4:=Tryz.isAgg4
 z4:=Tryz.sizeOf4
 v4:=Tryz.zeroValue4
 t5:=Tryz.underlying5
 a5:=Tryz.isAgg5
 z5:=Tryz.sizeOf5
 v5:=Tryz.zeroValue5
 t9:=Tryz.underlying9
 a9:=Tryz.isAgg9
 z9:=Tryz.sizeOf9
 v9:=Tryz.zeroValue9
 t21:=Tryz.underlying21
 a21:=Tryz.isAgg21
 z21:=Tryz.sizeOf21
 v21:=Tryz.zeroValue21
 t31:=Tryz.underlying25
 a31:=Tryz.isAgg25
 z31:=Tryz.sizeOf25
 v31:=Tryz.zeroValue25
 t46:=Tryz.underlying149
 a46:=Tryz.isAgg149
 z46:=Tryz.sizeOf149
 v46:=Tryz.zeroValue149
 t51:=Tryz.underlying189
 a51:=Tryz.isAgg189
 z51:=Tryz.sizeOf189
 v51:=Tryz.zeroValue189
 t105:=Tryz.underlying174
 a105:=Tryz.isAgg174
 z105:=Tryz.sizeOf174
 v105:=Tryz.zeroValue174
 t119:=Tryz.underlying233
 a119:=Tryz.isAgg233
 z119:=Tryz.sizeOf233
 t138:=Tryz.underlying235
 a138:=Tryz.isAgg235
 z138:=Tryz.sizeOf235
 v138:=Tryz.zeroValue235
 t139:=Tryz.underlying236
 a139:=Tryz.isAgg236
 z139:=Tryz.sizeOf236
 v139:=Tryz.zeroValue236
 t146:=Tryz.underlying227
 a146:=Tryz.isAgg227
 z146:=Tryz.sizeOf227
 v146:=Tryz.zeroValue227
 g1:=by kernel_rfl
 g3:=by kernel_rfl
 g4:=by kernel_rfl }
open Go.RowKit Go.Lib in
theorem Tryz.strings_Split(s sep:ByteArray)(m:Int)(w:World)(hs:s.size<4294967281)(hm:w.cell? ⟨0,0,none⟩=some (.int .i64 m))(h1:1<=sep.size):
  Calls Tryz.prog 11 #[.string s,.string sep] w fun e w'=>
   e=.returned (.slice (some ⟨w.heap.size,0,none⟩) (Lib.countB s sep+1) (Lib.countB s sep+1))/\w'=w.alloc (.cells ((Lib.splitB sep 0 (Lib.countB s sep) s).map Value.string).toArray 9):=Any.strings_Split Tryz.lays146 (by kernel_rfl) s sep m w hs hm h1
open Go.RowKit Go.Sort in
theorem Tryz.slices_Sort_string_none(p:Option Addr)(cap:Nat)(w:World):
  Calls Tryz.prog 45 #[.slice p 0 cap] w fun e w'=>e=.returned (.tuple #[])/\w'=w:=Any.slices_Sort_string_none Tryz.lays190 p cap w
def Tryz.laysSlF06_f80_ren:Go.Shelf.Ren:=⟨fun|6=>80|15=>79|14=>122|28=>120|29=>121|20=>145|21=>146|22=>147|23=>148|24=>149|25=>150|26=>151|27=>152|46=>176|47=>141|48=>142|49=>177|50=>178|57=>188|n=>n,fun|22=>22|24=>56|25=>151|3=>3|39=>149|0=>0|53=>189|55=>191|4=>4|46=>181|45=>180|50=>186|5=>5|9=>9|66=>204|70=>208|76=>237|77=>238|n=>n,fun|n=>n⟩
theorem Tryz.laysSlF06_f80:Go.Proofs.SlLaysF0.n6 Tryz.prog Tryz.laysSlF06_f80_ren:={
 mixed:=by kernel_rfl
 f6:=⟨Tryz.f80.name,by decide,Tryz.func80.trans (congrArg some (by kernel_rfl))⟩
 f14:=⟨Tryz.f122.name,by decide,Tryz.func122.trans (congrArg some (by kernel_rfl))⟩
 f15:=Tryz.func79.trans (congrArg some (by kernel_rfl))
 f20:=⟨Tryz.f145.name,by decide,Tryz.func145.trans (congrArg some (by kernel_rfl))⟩
 f21:=⟨Tryz.f146.name,by decide,Tryz.func146.trans (congrArg some (by kernel_rfl))⟩
 f22:=⟨Tryz.f147.name,by decide,Tryz.func147.trans (congrArg some (by kernel_rfl))⟩
 f23:=⟨Tryz.f148.name,by decide,Tryz.func148.trans (congrArg some (by kernel_rfl))⟩
 f24:=⟨Tryz.f149.name,by decide,Tryz.func149.trans (congrArg some (by kernel_rfl))⟩
 f25:=⟨Tryz.f150.name,by decide,Tryz.func150.trans (congrArg some (by kernel_rfl))⟩
 f26:=⟨Tryz.f151.name,by decide,Tryz.func151.trans (congrArg some (by kernel_rfl))⟩
 f27:=⟨Tryz.f152.name,by decide,Tryz.func152.trans (congrArg some (by kernel_rfl))⟩
 f28:=Tryz.func120.trans (congrArg some (by kernel_rfl))
 f29:=Tryz.func121.trans (congrArg some (by kernel_rfl))
 f46:=⟨Tryz.f176.name,by decide,Tryz.func176.trans (congrArg some (by kernel_rfl))⟩
 f47:=Tryz.func141.trans (congrArg some (by kernel_rfl))
 f48:=Tryz.func142.trans (congrArg some (by kernel_rfl))
 f49:=⟨Tryz.f177.name,by decide,Tryz.func177.trans (congrArg some (by kernel_rfl))⟩
 f50:=⟨Tryz.f178.name,by decide,Tryz.func178.trans (congrArg some (by kernel_rfl))⟩
 f57:=⟨Tryz.f188.name,by decide,Tryz.func188.trans (congrArg some (by kernel_rfl))⟩
 t0:=Tryz.underlying0
 a0:=Tryz.isAgg0
 z0:=Tryz.sizeOf0
 v0:=Tryz.zeroValue0
 t3:=Tryz.underlying3
 a3:=Tryz.isAgg3
 z3:=Tryz.sizeOf3
 v3:=Tryz.zeroValue3
 t4:=Tryz.underlying4
 a4:=Tryz.isAgg4
 z4:=Tryz.sizeOf4
 v4:=Tryz.zeroValue4
 t5:=Tryz.underlying5
 a5:=Tryz.isAgg5
 z5:=Tryz.sizeOf5
 v5:=Tryz.zeroValue5
 t9:=Tryz.underlying9
 a9:=Tryz.isAgg9
 z9:=Tryz.sizeOf9
 v9:=Tryz.zeroValue9
 t22:=Tryz.underlying22
 a22:=Tryz.isAgg22
 z22:=Tryz.sizeOf22
 v22:=Tryz.zeroValue22
 t25:=Tryz.underlying151
 a25:=Tryz.isAgg151
 z25:=Tryz.sizeOf151
 v25:=Tryz.zeroValue151
 t39:=Tryz.underlying149
 a39:=Tryz.isAgg149
 z39:=Tryz.sizeOf149
 v39:=Tryz.zeroValue149
 t45:=Tryz.underlying180
 a45:=Tryz.isAgg180
 z45:=Tryz.sizeOf180
 v45:=Tryz.zeroValue180
 t46:=Tryz.underlying181
 a46:=Tryz.isAgg181
 z46:=Tryz.sizeOf181
 v46:=Tryz.zeroValue181
 t50:=Tryz.underlying186
 a50:=Tryz.isAgg186
 z50:=Tryz.sizeOf186
 v50:=Tryz.zeroValue186
 t53:=Tryz.underlying189
 a53:=Tryz.isAgg189
 z53:=Tryz.sizeOf189
 v53:=Tryz.zeroValue189
 t55:=Tryz.underlying191
 a55:=Tryz.isAgg191
 z55:=Tryz.sizeOf191
 v55:=Tryz.zeroValue191
 t66:=Tryz.underlying204
 a66:=Tryz.isAgg204
 z66:=Tryz.sizeOf204
 v66:=Tryz.zeroValue204
 t70:=Tryz.underlying208
 a70:=Tryz.isAgg208
 z70:=Tryz.sizeOf208
 v70:=Tryz.zeroValue208
 t76:=Tryz.underlying237
 a76:=Tryz.isAgg237
 z76:=Tryz.sizeOf237
 v76:=Tryz.zeroValue237
 t77:=Tryz.underlying238
 a77:=Tryz.isAgg238
 z77:=Tryz.sizeOf238
 v77:=Tryz.zeroValue238 }
open Go.RowKit Go.Lib Go.Sort in
theorem Tryz.slices_SortFunc_eq_f80{α:Type}[Inhabited α](k:Nat)(aE:∀w,(isAgg (Tryz.laysSlF06_f80_ren.t 24)).run Tryz.prog w=.ok true w)(zE:∀w,(Go.sizeOf (Tryz.laysSlF06_f80_ren.t 24)).run Tryz.prog w=.ok k w)(enc:α->List Value)(hk:∀x,(enc x).length=k)(h1:∀x,∀v∈enc x,v.oneCell'=true)(cf:α->α->Int)(hO:SWO (ltOf cf))(g:Nat)(cb:Array Value)(blk off cap:Nat)(d:Array α)(w:World)(eg:∀args w,(callFunc g args).run Tryz.prog w=.ok (.enter g args) w)(hcmp:CmpLays Tryz.prog g cb enc k cf blk off d.size w)(hH:HoldsK enc k w blk off d)(hblk:blk<w.heap.size)(hsz:d.size<4611686018427387904):
  Calls Tryz.prog 80 #[.slice (some ⟨blk,off,none⟩) d.size cap,.func (.func g) #[] cb] w fun e w'=>
   e=.returned (.tuple #[])/\∃n os,w'=sortWorldK enc k w blk off n (pdq (ltOf cf) d 0 d.size (Lib.bitLen d.size) true true) os:=AnyQ.slices_SortFunc_eq Tryz.laysSlF06_f80 k aE zE enc hk h1 cf hO g cb blk off cap d w eg hcmp hH hblk hsz
def Tryz.laysSlF06_f83_ren:Go.Shelf.Ren:=⟨fun|6=>83|15=>79|14=>123|28=>120|29=>121|20=>153|21=>154|22=>155|23=>156|24=>157|25=>158|26=>159|27=>160|46=>179|47=>141|48=>142|49=>180|50=>181|57=>189|n=>n,fun|22=>23|24=>61|25=>153|3=>3|39=>149|0=>0|53=>189|55=>191|4=>4|46=>181|45=>180|50=>186|5=>5|9=>9|66=>204|70=>208|76=>237|77=>238|n=>n,fun|n=>n⟩
theorem Tryz.laysSlF06_f83:Go.Proofs.SlLaysF0.n6 Tryz.prog Tryz.laysSlF06_f83_ren:={
 mixed:=by kernel_rfl
 f6:=⟨Tryz.f83.name,by decide,Tryz.func83.trans (congrArg some (by kernel_rfl))⟩
 f14:=⟨Tryz.f123.name,by decide,Tryz.func123.trans (congrArg some (by kernel_rfl))⟩
 f15:=Tryz.func79.trans (congrArg some (by kernel_rfl))
 f20:=⟨Tryz.f153.name,by decide,Tryz.func153.trans (congrArg some (by kernel_rfl))⟩
 f21:=⟨Tryz.f154.name,by decide,Tryz.func154.trans (congrArg some (by kernel_rfl))⟩
 f22:=⟨Tryz.f155.name,by decide,Tryz.func155.trans (congrArg some (by kernel_rfl))⟩
 f23:=⟨Tryz.f156.name,by decide,Tryz.func156.trans (congrArg some (by kernel_rfl))⟩
 f24:=⟨Tryz.f157.name,by decide,Tryz.func157.trans (congrArg some (by kernel_rfl))⟩
 f25:=⟨Tryz.f158.name,by decide,Tryz.func158.trans (congrArg some (by kernel_rfl))⟩
 f26:=⟨Tryz.f159.name,by decide,Tryz.func159.trans (congrArg some (by kernel_rfl))⟩
 f27:=⟨Tryz.f160.name,by decide,Tryz.func160.trans (congrArg some (by kernel_rfl))⟩
 f28:=Tryz.func120.trans (congrArg some (by kernel_rfl))
 f29:=Tryz.func121.trans (congrArg some (by kernel_rfl))
 f46:=⟨Tryz.f179.name,by decide,Tryz.func179.trans (congrArg some (by kernel_rfl))⟩
 f47:=Tryz.func141.trans (congrArg some (by kernel_rfl))
 f48:=Tryz.func142.trans (congrArg some (by kernel_rfl))
 f49:=⟨Tryz.f180.name,by decide,Tryz.func180.trans (congrArg some (by kernel_rfl))⟩
 f50:=⟨Tryz.f181.name,by decide,Tryz.func181.trans (congrArg some (by kernel_rfl))⟩
 f57:=⟨Tryz.f189.name,by decide,Tryz.func189.trans (congrArg some (by kernel_rfl))⟩
 t0:=Tryz.underlying0
 a0:=Tryz.isAgg0
 z0:=Tryz.sizeOf0
 v0:=Tryz.zeroValue0
 t3:=Tryz.underlying3
 a3:=Tryz.isAgg3
 z3:=Tryz.sizeOf3
 v3:=Tryz.zeroValue3
 t4:=Tryz.underlying4
 a4:=Tryz.isAgg4
 z4:=Tryz.sizeOf4
 v4:=Tryz.zeroValue4
 t5:=Tryz.underlying5
 a5:=Tryz.isAgg5
 z5:=Tryz.sizeOf5
 v5:=Tryz.zeroValue5
 t9:=Tryz.underlying9
 a9:=Tryz.isAgg9
 z9:=Tryz.sizeOf9
 v9:=Tryz.zeroValue9
 t22:=Tryz.underlying23
 a22:=Tryz.isAgg23
 z22:=Tryz.sizeOf23
 v22:=Tryz.zeroValue23
 t25:=Tryz.underlying153
 a25:=Tryz.isAgg153
 z25:=Tryz.sizeOf153
 v25:=Tryz.zeroValue153
 t39:=Tryz.underlying149
 a39:=Tryz.isAgg149
 z39:=Tryz.sizeOf149
 v39:=Tryz.zeroValue149
 t45:=Tryz.underlying180
 a45:=Tryz.isAgg180
 z45:=Tryz.sizeOf180
 v45:=Tryz.zeroValue180
 t46:=Tryz.underlying181
 a46:=Tryz.isAgg181
 z46:=Tryz.sizeOf181
 v46:=Tryz.zeroValue181
 t50:=Tryz.underlying186
 a50:=Tryz.isAgg186
 z50:=Tryz.sizeOf186
 v50:=Tryz.zeroValue186
 t53:=Tryz.underlying189
 a53:=Tryz.isAgg189
 z53:=Tryz.sizeOf189
 v53:=Tryz.zeroValue189
 t55:=Tryz.underlying191
 a55:=Tryz.isAgg191
 z55:=Tryz.sizeOf191
 v55:=Tryz.zeroValue191
 t66:=Tryz.underlying204
 a66:=Tryz.isAgg204
 z66:=Tryz.sizeOf204
 v66:=Tryz.zeroValue204
 t70:=Tryz.underlying208
 a70:=Tryz.isAgg208
 z70:=Tryz.sizeOf208
 v70:=Tryz.zeroValue208
 t76:=Tryz.underlying237
 a76:=Tryz.isAgg237
 z76:=Tryz.sizeOf237
 v76:=Tryz.zeroValue237
 t77:=Tryz.underlying238
 a77:=Tryz.isAgg238
 z77:=Tryz.sizeOf238
 v77:=Tryz.zeroValue238 }
open Go.RowKit Go.Lib Go.Sort in
theorem Tryz.slices_SortFunc_eq_f83{α:Type}[Inhabited α](k:Nat)(aE:∀w,(isAgg (Tryz.laysSlF06_f83_ren.t 24)).run Tryz.prog w=.ok true w)(zE:∀w,(Go.sizeOf (Tryz.laysSlF06_f83_ren.t 24)).run Tryz.prog w=.ok k w)(enc:α->List Value)(hk:∀x,(enc x).length=k)(h1:∀x,∀v∈enc x,v.oneCell'=true)(cf:α->α->Int)(hO:SWO (ltOf cf))(g:Nat)(cb:Array Value)(blk off cap:Nat)(d:Array α)(w:World)(eg:∀args w,(callFunc g args).run Tryz.prog w=.ok (.enter g args) w)(hcmp:CmpLays Tryz.prog g cb enc k cf blk off d.size w)(hH:HoldsK enc k w blk off d)(hblk:blk<w.heap.size)(hsz:d.size<4611686018427387904):
  Calls Tryz.prog 83 #[.slice (some ⟨blk,off,none⟩) d.size cap,.func (.func g) #[] cb] w fun e w'=>
   e=.returned (.tuple #[])/\∃n os,w'=sortWorldK enc k w blk off n (pdq (ltOf cf) d 0 d.size (Lib.bitLen d.size) true true) os:=AnyQ.slices_SortFunc_eq Tryz.laysSlF06_f83 k aE zE enc hk h1 cf hO g cb blk off cap d w eg hcmp hH hblk hsz
def Tryz.laysSlF06_f86_ren:Go.Shelf.Ren:=⟨fun|6=>86|15=>79|14=>124|28=>120|29=>121|20=>161|21=>162|22=>163|23=>164|24=>165|25=>166|26=>167|27=>168|46=>182|47=>141|48=>142|49=>183|50=>184|57=>190|n=>n,fun|22=>24|24=>71|25=>156|3=>3|39=>149|0=>0|53=>189|55=>191|4=>4|46=>181|45=>180|50=>186|5=>5|9=>9|66=>204|70=>208|76=>237|77=>238|n=>n,fun|n=>n⟩
theorem Tryz.laysSlF06_f86:Go.Proofs.SlLaysF0.n6 Tryz.prog Tryz.laysSlF06_f86_ren:={
 mixed:=by kernel_rfl
 f6:=⟨Tryz.f86.name,by decide,Tryz.func86.trans (congrArg some (by kernel_rfl))⟩
 f14:=⟨Tryz.f124.name,by decide,Tryz.func124.trans (congrArg some (by kernel_rfl))⟩
 f15:=Tryz.func79.trans (congrArg some (by kernel_rfl))
 f20:=⟨Tryz.f161.name,by decide,Tryz.func161.trans (congrArg some (by kernel_rfl))⟩
 f21:=⟨Tryz.f162.name,by decide,Tryz.func162.trans (congrArg some (by kernel_rfl))⟩
 f22:=⟨Tryz.f163.name,by decide,Tryz.func163.trans (congrArg some (by kernel_rfl))⟩
 f23:=⟨Tryz.f164.name,by decide,Tryz.func164.trans (congrArg some (by kernel_rfl))⟩
 f24:=⟨Tryz.f165.name,by decide,Tryz.func165.trans (congrArg some (by kernel_rfl))⟩
 f25:=⟨Tryz.f166.name,by decide,Tryz.func166.trans (congrArg some (by kernel_rfl))⟩
 f26:=⟨Tryz.f167.name,by decide,Tryz.func167.trans (congrArg some (by kernel_rfl))⟩
 f27:=⟨Tryz.f168.name,by decide,Tryz.func168.trans (congrArg some (by kernel_rfl))⟩
 f28:=Tryz.func120.trans (congrArg some (by kernel_rfl))
 f29:=Tryz.func121.trans (congrArg some (by kernel_rfl))
 f46:=⟨Tryz.f182.name,by decide,Tryz.func182.trans (congrArg some (by kernel_rfl))⟩
 f47:=Tryz.func141.trans (congrArg some (by kernel_rfl))
 f48:=Tryz.func142.trans (congrArg some (by kernel_rfl))
 f49:=⟨Tryz.f183.name,by decide,Tryz.func183.trans (congrArg some (by kernel_rfl))⟩
 f50:=⟨Tryz.f184.name,by decide,Tryz.func184.trans (congrArg some (by kernel_rfl))⟩
 f57:=⟨Tryz.f190.name,by decide,Tryz.func190.trans (congrArg some (by kernel_rfl))⟩
 t0:=Tryz.underlying0
 a0:=Tryz.isAgg0
 z0:=Tryz.sizeOf0
 v0:=Tryz.zeroValue0
 t3:=Tryz.underlying3
 a3:=Tryz.isAgg3
 z3:=Tryz.sizeOf3
 v3:=Tryz.zeroValue3
 t4:=Tryz.underlying4
 a4:=Tryz.isAgg4
 z4:=Tryz.sizeOf4
 v4:=Tryz.zeroValue4
 t5:=Tryz.underlying5
 a5:=Tryz.isAgg5
 z5:=Tryz.sizeOf5
 v5:=Tryz.zeroValue5
 t9:=Tryz.underlying9
 a9:=Tryz.isAgg9
 z9:=Tryz.sizeOf9
 v9:=Tryz.zeroValue9
 t22:=Tryz.underlying24
 a22:=Tryz.isAgg24
 z22:=Tryz.sizeOf24
 v22:=Tryz.zeroValue24
 t25:=Tryz.underlying156
 a25:=Tryz.isAgg156
 z25:=Tryz.sizeOf156
 v25:=Tryz.zeroValue156
 t39:=Tryz.underlying149
 a39:=Tryz.isAgg149
 z39:=Tryz.sizeOf149
 v39:=Tryz.zeroValue149
 t45:=Tryz.underlying180
 a45:=Tryz.isAgg180
 z45:=Tryz.sizeOf180
 v45:=Tryz.zeroValue180
 t46:=Tryz.underlying181
 a46:=Tryz.isAgg181
 z46:=Tryz.sizeOf181
 v46:=Tryz.zeroValue181
 t50:=Tryz.underlying186
 a50:=Tryz.isAgg186
 z50:=Tryz.sizeOf186
 v50:=Tryz.zeroValue186
 t53:=Tryz.underlying189
 a53:=Tryz.isAgg189
 z53:=Tryz.sizeOf189
 v53:=Tryz.zeroValue189
 t55:=Tryz.underlying191
 a55:=Tryz.isAgg191
 z55:=Tryz.sizeOf191
 v55:=Tryz.zeroValue191
 t66:=Tryz.underlying204
 a66:=Tryz.isAgg204
 z66:=Tryz.sizeOf204
 v66:=Tryz.zeroValue204
 t70:=Tryz.underlying208
 a70:=Tryz.isAgg208
 z70:=Tryz.sizeOf208
 v70:=Tryz.zeroValue208
 t76:=Tryz.underlying237
 a76:=Tryz.isAgg237
 z76:=Tryz.sizeOf237
 v76:=Tryz.zeroValue237
 t77:=Tryz.underlying238
 a77:=Tryz.isAgg238
 z77:=Tryz.sizeOf238
 v77:=Tryz.zeroValue238 }
open Go.RowKit Go.Lib Go.Sort in
theorem Tryz.slices_SortFunc_eq_f86{α:Type}[Inhabited α](k:Nat)(aE:∀w,(isAgg (Tryz.laysSlF06_f86_ren.t 24)).run Tryz.prog w=.ok true w)(zE:∀w,(Go.sizeOf (Tryz.laysSlF06_f86_ren.t 24)).run Tryz.prog w=.ok k w)(enc:α->List Value)(hk:∀x,(enc x).length=k)(h1:∀x,∀v∈enc x,v.oneCell'=true)(cf:α->α->Int)(hO:SWO (ltOf cf))(g:Nat)(cb:Array Value)(blk off cap:Nat)(d:Array α)(w:World)(eg:∀args w,(callFunc g args).run Tryz.prog w=.ok (.enter g args) w)(hcmp:CmpLays Tryz.prog g cb enc k cf blk off d.size w)(hH:HoldsK enc k w blk off d)(hblk:blk<w.heap.size)(hsz:d.size<4611686018427387904):
  Calls Tryz.prog 86 #[.slice (some ⟨blk,off,none⟩) d.size cap,.func (.func g) #[] cb] w fun e w'=>
   e=.returned (.tuple #[])/\∃n os,w'=sortWorldK enc k w blk off n (pdq (ltOf cf) d 0 d.size (Lib.bitLen d.size) true true) os:=AnyQ.slices_SortFunc_eq Tryz.laysSlF06_f86 k aE zE enc hk h1 cf hO g cb blk off cap d w eg hcmp hH hblk hsz
open Go.RowKit Go.Lib Go.Sort in
theorem Tryz.slices_SortFunc_none_f80{α:Type}[Inhabited α](p:Option Addr)(cap:Nat)(fv:Value)(w:World):
  Calls Tryz.prog 80 #[.slice p 0 cap,fv] w fun e w'=>e=.returned (.tuple #[])/\w'=w:=AnyF.slices_SortFunc_none Tryz.laysSlF06_f80 p cap fv w
open Go.RowKit Go.Lib Go.Sort in
theorem Tryz.slices_SortFunc_none_f83{α:Type}[Inhabited α](p:Option Addr)(cap:Nat)(fv:Value)(w:World):
  Calls Tryz.prog 83 #[.slice p 0 cap,fv] w fun e w'=>e=.returned (.tuple #[])/\w'=w:=AnyF.slices_SortFunc_none Tryz.laysSlF06_f83 p cap fv w
open Go.RowKit Go.Lib Go.Sort in
theorem Tryz.slices_SortFunc_none_f86{α:Type}[Inhabited α](p:Option Addr)(cap:Nat)(fv:Value)(w:World):
  Calls Tryz.prog 86 #[.slice p 0 cap,fv] w fun e w'=>e=.returned (.tuple #[])/\w'=w:=AnyF.slices_SortFunc_none Tryz.laysSlF06_f86 p cap fv w
end Go.Proofs
