/- Part of the proof: RTr, REr. -/
import Derived.Test.YtjofofmllnpkpaaGreatDoorSEW
import Derived.Test.YtjofofmllnpkpaaGreatDoorProg
import Derived.KernelRfl
namespace Go.Proofs.YtjofofmllnpkpaaGreatDoor
open Go Go.Pv
set_option maxRecDepth 100000
noncomputable def evft:FT:=[(8,Tryz.f8),(15,Tryz.f15),(24,Tryz.f24),(31,Tryz.f31),(42,Tryz.f42),(60,Tryz.f60),(61,Tryz.f61),(68,Tryz.f68),(69,Tryz.f69),(77,Tryz.f77),(89,Tryz.f89),(90,Tryz.f90),(91,Tryz.f91),(92,Tryz.f92),(99,Tryz.f99),(100,Tryz.f100),(101,Tryz.f101),(102,Tryz.f102),(103,Tryz.f103),(125,Tryz.f125),(126,Tryz.f126),(127,Tryz.f127),(134,Tryz.f134),(135,Tryz.f135),(136,Tryz.f136),(169,Tryz.f169),(172,Tryz.f172),(173,Tryz.f173),(185,Tryz.f185),(186,Tryz.f186),(187,Tryz.f187)]
theorem evft_ok:FTok Tryz.prog evft:=by
 intro p hp
 simp only[evft,List.mem_cons,List.not_mem_nil,or_false] at hp
 rcases hp with rfl|rfl|rfl|rfl|rfl|rfl|rfl|rfl|rfl|rfl|rfl|rfl|rfl|rfl|rfl|rfl|rfl|rfl|rfl|rfl|rfl|rfl|rfl|rfl|rfl|rfl|rfl|rfl|rfl|rfl|rfl
 ·exact⟨Tryz.func8,by kernel_rfl⟩
 ·exact⟨Tryz.func15,by kernel_rfl⟩
 ·exact⟨Tryz.func24,by kernel_rfl⟩
 ·exact⟨Tryz.func31,by kernel_rfl⟩
 ·exact⟨Tryz.func42,by kernel_rfl⟩
 ·exact⟨Tryz.func60,by kernel_rfl⟩
 ·exact⟨Tryz.func61,by kernel_rfl⟩
 ·exact⟨Tryz.func68,by kernel_rfl⟩
 ·exact⟨Tryz.func69,by kernel_rfl⟩
 ·exact⟨Tryz.func77,by kernel_rfl⟩
 ·exact⟨Tryz.func89,by kernel_rfl⟩
 ·exact⟨Tryz.func90,by kernel_rfl⟩
 ·exact⟨Tryz.func91,by kernel_rfl⟩
 ·exact⟨Tryz.func92,by kernel_rfl⟩
 ·exact⟨Tryz.func99,by kernel_rfl⟩
 ·exact⟨Tryz.func100,by kernel_rfl⟩
 ·exact⟨Tryz.func101,by kernel_rfl⟩
 ·exact⟨Tryz.func102,by kernel_rfl⟩
 ·exact⟨Tryz.func103,by kernel_rfl⟩
 ·exact⟨Tryz.func125,by kernel_rfl⟩
 ·exact⟨Tryz.func126,by kernel_rfl⟩
 ·exact⟨Tryz.func127,by kernel_rfl⟩
 ·exact⟨Tryz.func134,by kernel_rfl⟩
 ·exact⟨Tryz.func135,by kernel_rfl⟩
 ·exact⟨Tryz.func136,by kernel_rfl⟩
 ·exact⟨Tryz.func169,by kernel_rfl⟩
 ·exact⟨Tryz.func172,by kernel_rfl⟩
 ·exact⟨Tryz.func173,by kernel_rfl⟩
 ·exact⟨Tryz.func185,by kernel_rfl⟩
 ·exact⟨Tryz.func186,by kernel_rfl⟩
 ·exact⟨Tryz.func187,by kernel_rfl⟩
def evtt:TT:=[(3,[.C,.Z 1 [.int .i64 0],.U,.I .i64]),(4,[.C,.Z 1 [.bool false],.S 1]),(9,[.Z 1 [.string ⟨#[]⟩],.C,.Str]),(22,[.C,.Sn,.Sl 2]),(23,[.C,.Sn,.Sl 2]),(24,[.El 71 4 80,.C,.Sl 4,.Sn]),(25,[.El 9 1 16,.Sn,.Sl 1,.C]),(27,[.Z 4 [.slice none 0 0,.slice none 0 0,.slice none 0 0,.slice none 0 0],.Pl [(0,1),(1,1),(2,1),(3,1)],.S 4,.A 4,.F 2 2,.F 0 0,.F 1 1,.F 3 3]),(56,[.A 2,.Z 2 [.string ⟨#[]⟩,.slice none 0 0],.S 2,.F 0 0,.F 1 1]),(59,[.C,.Sn,.Sl 2]),(61,[.A 2,.Z 2 [.string ⟨#[]⟩,.slice none 0 0],.S 2,.F 0 0,.F 1 1]),(64,[.A 2,.Z 2 [.string ⟨#[]⟩,.string ⟨#[]⟩],.S 2,.F 0 0,.F 1 1]),(69,[.El 74 4 56,.C,.Sn,.Sl 4]),(71,[.Z 4 [.string ⟨#[]⟩,.string ⟨#[]⟩,.slice none 0 0,.slice none 0 0],.Pl [(0,1),(1,1),(2,1),(3,1)],.F 0 0,.A 4,.S 4,.F 3 3,.F 2 2,.F 1 1]),(74,[.Z 4 [.int .i64 0,.string ⟨#[]⟩,.string ⟨#[]⟩,.string ⟨#[]⟩],.Pl [(0,1),(1,1),(2,1),(3,1)],.A 4,.S 4,.F 3 3,.F 0 0,.F 1 1,.F 2 2]),(114,[.C]),(115,[.C]),(117,[.A 4,.Z 4 [.bool false,.map none,.map none,.map none],.Pl [(0,1),(1,1),(2,1),(3,1)],.S 4,.F 1 1,.F 2 2,.F 3 3,.F 0 0]),(120,[.C,.Sn,.Sl 1,.S 1,.El 3 1 8]),(130,[.C]),(133,[.C,.Sn,.Sl 1,.El 4 1 1]),(134,[.C]),(135,[.C,.Sn,.Sl 2,.El 200 2 32,.S 1]),(137,[.F 1 1,.Z 7 [.pointer none,.slice none 0 0,.slice none 0 0,.map none,.slice none 0 0,.slice none 0 0,.slice none 0 0],.Pl [(0,1),(1,1),(2,1),(3,1),(4,1),(5,1),(6,1)],.S 7,.F 6 6,.F 2 2,.F 0 0,.F 4 4,.F 3 3]),(149,[.I .u64,.U]),(166,[.C]),(167,[.C]),(169,[.F 0 0,.F 1 4,.F 2 5,.F 4 7,.Z 9 [.slice none 0 0,.slice none 0 0,.slice none 0 0,.slice none 0 0,.map none,.map none,.map none,.map none,.bool false],.Pl [(0,4),(4,1),(5,1),(6,1),(7,1),(8,1)],.S 9,.F 3 6,.F 5 8]),(200,[.A 2,.Z 2 [.string ⟨#[]⟩,.string ⟨#[]⟩],.S 2,.F 0 0,.F 1 1,.Pl [(0,1),(1,1)]])]
theorem evtt_ok:TTok Tryz.prog evtt:=tt_all ⟨⟨(by kernel_rfl:tyC Tryz.prog 3=true),⟨(by kernel_rfl:zeroCells Tryz.prog 3=some [.int .i64 0]),rfl⟩,(by kernel_rfl:tyU Tryz.prog 3=true),(by kernel_rfl:tyI Tryz.prog 3 .i64=true),trivial⟩,⟨(by kernel_rfl:tyC Tryz.prog 4=true),⟨(by kernel_rfl:zeroCells Tryz.prog 4=some [.bool false]),rfl⟩,(by kernel_rfl:tyS Tryz.prog 4 1=true),trivial⟩,⟨⟨(by kernel_rfl:zeroCells Tryz.prog 9=some [.string ⟨#[]⟩]),rfl⟩,(by kernel_rfl:tyC Tryz.prog 9=true),(by kernel_rfl:tyStr Tryz.prog 9=true),trivial⟩,⟨(by kernel_rfl:tyC Tryz.prog 22=true),(by kernel_rfl:tySlice Tryz.prog 22=true),(by kernel_rfl:tySl Tryz.prog 22 2=true),trivial⟩,⟨(by kernel_rfl:tyC Tryz.prog 23=true),(by kernel_rfl:tySlice Tryz.prog 23=true),(by kernel_rfl:tySl Tryz.prog 23 2=true),trivial⟩,⟨(by kernel_rfl:tyEl Tryz.prog 24 71 4 80=true),(by kernel_rfl:tyC Tryz.prog 24=true),(by kernel_rfl:tySl Tryz.prog 24 4=true),(by kernel_rfl:tySlice Tryz.prog 24=true),trivial⟩,⟨(by kernel_rfl:tyEl Tryz.prog 25 9 1 16=true),(by kernel_rfl:tySlice Tryz.prog 25=true),(by kernel_rfl:tySl Tryz.prog 25 1=true),(by kernel_rfl:tyC Tryz.prog 25=true),trivial⟩,⟨⟨(by kernel_rfl:zeroCells Tryz.prog 27=some [.slice none 0 0,.slice none 0 0,.slice none 0 0,.slice none 0 0]),rfl⟩,(by kernel_rfl:tyPlaces Tryz.prog 27=some [(0,1),(1,1),(2,1),(3,1)]),(by kernel_rfl:tyS Tryz.prog 27 4=true),(by kernel_rfl:tyA Tryz.prog 27 4=true),(by kernel_rfl:tyF Tryz.prog 27 2 2=true),(by kernel_rfl:tyF Tryz.prog 27 0 0=true),(by kernel_rfl:tyF Tryz.prog 27 1 1=true),(by kernel_rfl:tyF Tryz.prog 27 3 3=true),trivial⟩,⟨(by kernel_rfl:tyA Tryz.prog 56 2=true),⟨(by kernel_rfl:zeroCells Tryz.prog 56=some [.string ⟨#[]⟩,.slice none 0 0]),rfl⟩,(by kernel_rfl:tyS Tryz.prog 56 2=true),(by kernel_rfl:tyF Tryz.prog 56 0 0=true),(by kernel_rfl:tyF Tryz.prog 56 1 1=true),trivial⟩,⟨(by kernel_rfl:tyC Tryz.prog 59=true),(by kernel_rfl:tySlice Tryz.prog 59=true),(by kernel_rfl:tySl Tryz.prog 59 2=true),trivial⟩,⟨(by kernel_rfl:tyA Tryz.prog 61 2=true),⟨(by kernel_rfl:zeroCells Tryz.prog 61=some [.string ⟨#[]⟩,.slice none 0 0]),rfl⟩,(by kernel_rfl:tyS Tryz.prog 61 2=true),(by kernel_rfl:tyF Tryz.prog 61 0 0=true),(by kernel_rfl:tyF Tryz.prog 61 1 1=true),trivial⟩,⟨(by kernel_rfl:tyA Tryz.prog 64 2=true),⟨(by kernel_rfl:zeroCells Tryz.prog 64=some [.string ⟨#[]⟩,.string ⟨#[]⟩]),rfl⟩,(by kernel_rfl:tyS Tryz.prog 64 2=true),(by kernel_rfl:tyF Tryz.prog 64 0 0=true),(by kernel_rfl:tyF Tryz.prog 64 1 1=true),trivial⟩,⟨(by kernel_rfl:tyEl Tryz.prog 69 74 4 56=true),(by kernel_rfl:tyC Tryz.prog 69=true),(by kernel_rfl:tySlice Tryz.prog 69=true),(by kernel_rfl:tySl Tryz.prog 69 4=true),trivial⟩,⟨⟨(by kernel_rfl:zeroCells Tryz.prog 71=some [.string ⟨#[]⟩,.string ⟨#[]⟩,.slice none 0 0,.slice none 0 0]),rfl⟩,(by kernel_rfl:tyPlaces Tryz.prog 71=some [(0,1),(1,1),(2,1),(3,1)]),(by kernel_rfl:tyF Tryz.prog 71 0 0=true),(by kernel_rfl:tyA Tryz.prog 71 4=true),(by kernel_rfl:tyS Tryz.prog 71 4=true),(by kernel_rfl:tyF Tryz.prog 71 3 3=true),(by kernel_rfl:tyF Tryz.prog 71 2 2=true),(by kernel_rfl:tyF Tryz.prog 71 1 1=true),trivial⟩,⟨⟨(by kernel_rfl:zeroCells Tryz.prog 74=some [.int .i64 0,.string ⟨#[]⟩,.string ⟨#[]⟩,.string ⟨#[]⟩]),rfl⟩,(by kernel_rfl:tyPlaces Tryz.prog 74=some [(0,1),(1,1),(2,1),(3,1)]),(by kernel_rfl:tyA Tryz.prog 74 4=true),(by kernel_rfl:tyS Tryz.prog 74 4=true),(by kernel_rfl:tyF Tryz.prog 74 3 3=true),(by kernel_rfl:tyF Tryz.prog 74 0 0=true),(by kernel_rfl:tyF Tryz.prog 74 1 1=true),(by kernel_rfl:tyF Tryz.prog 74 2 2=true),trivial⟩,⟨(by kernel_rfl:tyC Tryz.prog 114=true),trivial⟩,⟨(by kernel_rfl:tyC Tryz.prog 115=true),trivial⟩,⟨(by kernel_rfl:tyA Tryz.prog 117 4=true),⟨(by kernel_rfl:zeroCells Tryz.prog 117=some [.bool false,.map none,.map none,.map none]),rfl⟩,(by kernel_rfl:tyPlaces Tryz.prog 117=some [(0,1),(1,1),(2,1),(3,1)]),(by kernel_rfl:tyS Tryz.prog 117 4=true),(by kernel_rfl:tyF Tryz.prog 117 1 1=true),(by kernel_rfl:tyF Tryz.prog 117 2 2=true),(by kernel_rfl:tyF Tryz.prog 117 3 3=true),(by kernel_rfl:tyF Tryz.prog 117 0 0=true),trivial⟩,⟨(by kernel_rfl:tyC Tryz.prog 120=true),(by kernel_rfl:tySlice Tryz.prog 120=true),(by kernel_rfl:tySl Tryz.prog 120 1=true),(by kernel_rfl:tyS Tryz.prog 120 1=true),(by kernel_rfl:tyEl Tryz.prog 120 3 1 8=true),trivial⟩,⟨(by kernel_rfl:tyC Tryz.prog 130=true),trivial⟩,⟨(by kernel_rfl:tyC Tryz.prog 133=true),(by kernel_rfl:tySlice Tryz.prog 133=true),(by kernel_rfl:tySl Tryz.prog 133 1=true),(by kernel_rfl:tyEl Tryz.prog 133 4 1 1=true),trivial⟩,⟨(by kernel_rfl:tyC Tryz.prog 134=true),trivial⟩,⟨(by kernel_rfl:tyC Tryz.prog 135=true),(by kernel_rfl:tySlice Tryz.prog 135=true),(by kernel_rfl:tySl Tryz.prog 135 2=true),(by kernel_rfl:tyEl Tryz.prog 135 200 2 32=true),(by kernel_rfl:tyS Tryz.prog 135 1=true),trivial⟩,⟨(by kernel_rfl:tyF Tryz.prog 137 1 1=true),⟨(by kernel_rfl:zeroCells Tryz.prog 137=some [.pointer none,.slice none 0 0,.slice none 0 0,.map none,.slice none 0 0,.slice none 0 0,.slice none 0 0]),rfl⟩,(by kernel_rfl:tyPlaces Tryz.prog 137=some [(0,1),(1,1),(2,1),(3,1),(4,1),(5,1),(6,1)]),(by kernel_rfl:tyS Tryz.prog 137 7=true),(by kernel_rfl:tyF Tryz.prog 137 6 6=true),(by kernel_rfl:tyF Tryz.prog 137 2 2=true),(by kernel_rfl:tyF Tryz.prog 137 0 0=true),(by kernel_rfl:tyF Tryz.prog 137 4 4=true),(by kernel_rfl:tyF Tryz.prog 137 3 3=true),trivial⟩,⟨(by kernel_rfl:tyI Tryz.prog 149 .u64=true),(by kernel_rfl:tyU Tryz.prog 149=true),trivial⟩,⟨(by kernel_rfl:tyC Tryz.prog 166=true),trivial⟩,⟨(by kernel_rfl:tyC Tryz.prog 167=true),trivial⟩,⟨(by kernel_rfl:tyF Tryz.prog 169 0 0=true),(by kernel_rfl:tyF Tryz.prog 169 1 4=true),(by kernel_rfl:tyF Tryz.prog 169 2 5=true),(by kernel_rfl:tyF Tryz.prog 169 4 7=true),⟨(by kernel_rfl:zeroCells Tryz.prog 169=some [.slice none 0 0,.slice none 0 0,.slice none 0 0,.slice none 0 0,.map none,.map none,.map none,.map none,.bool false]),rfl⟩,(by kernel_rfl:tyPlaces Tryz.prog 169=some [(0,4),(4,1),(5,1),(6,1),(7,1),(8,1)]),(by kernel_rfl:tyS Tryz.prog 169 9=true),(by kernel_rfl:tyF Tryz.prog 169 3 6=true),(by kernel_rfl:tyF Tryz.prog 169 5 8=true),trivial⟩,⟨(by kernel_rfl:tyA Tryz.prog 200 2=true),⟨(by kernel_rfl:zeroCells Tryz.prog 200=some [.string ⟨#[]⟩,.string ⟨#[]⟩]),rfl⟩,(by kernel_rfl:tyS Tryz.prog 200 2=true),(by kernel_rfl:tyF Tryz.prog 200 0 0=true),(by kernel_rfl:tyF Tryz.prog 200 1 1=true),(by kernel_rfl:tyPlaces Tryz.prog 200=some [(0,1),(1,1)]),trivial⟩,trivial⟩
def evmt:List MT:=[⟨114,9,56,true,.i64,.agg [.con (.string ⟨#[]⟩),.con (.slice none 0 0)]⟩,⟨115,9,4,true,.i64,.con (.bool false)⟩,⟨166,9,3,true,.i64,.con (.int .i64 0)⟩,⟨167,9,120,true,.i64,.con (.slice none 0 0)⟩]
theorem evmt_ok:MTok Tryz.prog evmt:=by
 intro p hp
 simp only[evmt,List.mem_cons,List.not_mem_nil,or_false] at hp
 rcases hp with rfl|rfl|rfl|rfl
 ·exact⟨by kernel_rfl,keyT_str (by kernel_rfl),_,by kernel_rfl,fun _=>(irel_agg [Value.string ⟨#[]⟩,Value.slice none 0 0])⟩
 ·exact⟨by kernel_rfl,keyT_str (by kernel_rfl),_,by kernel_rfl,fun _=>(.con _)⟩
 ·exact⟨by kernel_rfl,keyT_str (by kernel_rfl),_,by kernel_rfl,fun _=>(.con _)⟩
 ·exact⟨by kernel_rfl,keyT_str (by kernel_rfl),_,by kernel_rfl,fun _=>(.con _)⟩
def evxt:XT:=[]
theorem evxt_ok{gl:Gl}:XTok gl Tryz.prog evxt:=by intro p hp;simp[evxt] at hp
theorem kmixed:Tryz.prog.follows .mixedOrders=true:=by kernel_rfl
theorem told_run:evF evft evxt evtt evmt 3000 8 []=some (.con (.bool true)):=by kernel_rfl
theorem told_pure{gl:Gl}:PureG gl Tryz.prog 8 [] (bV true):=evF_ok evft_ok evxt_ok evtt_ok evmt_ok kmixed told_run
end Go.Proofs.YtjofofmllnpkpaaGreatDoor
