/- Part of the proof. -/
import Derived.Test.YtppfkkkifdbnaaaGreatDoorVEW
set_option linter.unusedSimpArgs false
namespace Go.Proofs.YtppfkkkifdbnaaaGreatDoor
open Go Go.Pv
set_option maxRecDepth 100000
noncomputable def evft:FT:=[(6,Tryz.f6),(7,Tryz.f7),(9,Tryz.f9),(11,Tryz.f11),(14,Tryz.f14),(21,Tryz.f21),(22,Tryz.f22),(23,Tryz.f23),(24,Tryz.f24),(25,Tryz.f25),(26,Tryz.f26),(30,Tryz.f30),(31,Tryz.f31),(32,Tryz.f32),(35,Tryz.f35),(40,Tryz.f40),(45,Tryz.f45),(46,Tryz.f46),(47,Tryz.f47),(48,Tryz.f48),(49,Tryz.f49),(50,Tryz.f50),(51,Tryz.f51),(52,Tryz.f52),(53,Tryz.f53),(54,Tryz.f54),(55,Tryz.f55),(56,Tryz.f56),(57,Tryz.f57),(59,Tryz.f59),(60,Tryz.f60),(61,Tryz.f61),(62,Tryz.f62),(63,Tryz.f63),(64,Tryz.f64),(65,Tryz.f65),(70,Tryz.f70),(76,Tryz.f76),(77,Tryz.f77),(78,Tryz.f78),(79,Tryz.f79),(80,Tryz.f80),(81,Tryz.f81),(82,Tryz.f82),(83,Tryz.f83),(84,Tryz.f84),(85,Tryz.f85),(86,Tryz.f86),(89,Tryz.f89),(90,Tryz.f90),(91,Tryz.f91),(92,Tryz.f92),(93,Tryz.f93),(94,Tryz.f94),(99,Tryz.f99),(100,Tryz.f100),(101,Tryz.f101),(102,Tryz.f102),(108,Tryz.f108),(109,Tryz.f109),(110,Tryz.f110),(111,Tryz.f111),(112,Tryz.f112),(113,Tryz.f113),(114,Tryz.f114),(115,Tryz.f115),(116,Tryz.f116),(125,Tryz.f125),(126,Tryz.f126),(127,Tryz.f127),(128,Tryz.f128),(129,Tryz.f129),(131,Tryz.f131),(132,Tryz.f132),(133,Tryz.f133),(134,Tryz.f134),(135,Tryz.f135),(136,Tryz.f136),(137,Tryz.f137),(144,Tryz.f144),(145,Tryz.f145),(147,Tryz.f147),(148,Tryz.f148),(149,Tryz.f149),(150,Tryz.f150),(160,Tryz.f160),(161,Tryz.f161),(185,Tryz.f185),(186,Tryz.f186),(207,Tryz.f207),(208,Tryz.f208),(209,Tryz.f209),(210,Tryz.f210),(211,Tryz.f211),(212,Tryz.f212),(213,Tryz.f213),(214,Tryz.f214),(215,Tryz.f215),(216,Tryz.f216),(217,Tryz.f217),(218,Tryz.f218),(219,Tryz.f219),(220,Tryz.f220)]
theorem evft_ok:FTok Tryz.prog evft:=ft_ok [6,7,9,11,14,21,22,23,24,25,26,30,31,32,35,40,45,46,47,48,49,50,51,52,53,54,55,56,57,59,60,61,62,63,64,65,70,76,77,78,79,80,81,82,83,84,85,86,89,90,91,92,93,94,99,100,101,102,108,109,110,111,112,113,114,115,116,125,126,127,128,129,131,132,133,134,135,136,137,144,145,147,148,149,150,160,161,185,186,207,208,209,210,211,212,213,214,215,216,217,218,219,220] (by kernel_rfl) (by kernel_rfl)
def evtt:TT:=[(2,[.U,.I .i64]),(3,[.C,.S 1,.Z 1 [.int .i64 0],.U,.I .i64]),(4,[.C,.S 1]),(5,[.Z 1 [.int .u8 0],.S 1,.I .u8,.C,.U]),(9,[.Str,.C,.Z 1 [.string ⟨#[]⟩],.S 1,.Cn,.U]),(22,[.C,.El 44 9 128,.Sn,.S 1,.Sl 9]),(23,[.C,.El 52 6 72,.Sn,.S 1,.Sl 6]),(25,[.Z 2 [.slice none 0 0,.slice none 0 0],.S 2,.A 2,.Pl [(0,1),(1,1)],.F 0 0,.F 1 1]),(26,[.C,.S 1]),(36,[.U,.El 5 1 1,.Sn,.Sl 1]),(39,[.El 9 1 16,.Sn,.Sl 1,.C,.S 1]),(40,[.C,.Sn,.Sl 6,.El 42 6 88,.S 1]),(42,[.A 6,.S 6,.Z 6 [.int .i64 0,.string ⟨#[]⟩,.slice none 0 0,.int .i64 0,.int .i64 0,.slice none 0 0],.F 5 5,.F 0 0,.F 1 1,.F 2 2,.F 3 3,.F 4 4,.Pl [(0,1),(1,1),(2,1),(3,1),(4,1),(5,1)]]),(44,[.Z 9 [.string ⟨#[]⟩,.string ⟨#[]⟩,.int .i64 0,.string ⟨#[]⟩,.slice none 0 0,.int .i64 0,.int .i64 0,.slice none 0 0,.int .i64 0],.A 9,.S 9,.F 0 0,.F 1 1,.F 2 2,.F 3 8,.Pl [(0,1),(1,1),(2,6),(8,1)]]),(46,[.C]),(52,[.Z 6 [.string ⟨#[]⟩,.string ⟨#[]⟩,.int .i64 0,.int .i64 0,.string ⟨#[]⟩,.int .i64 0],.A 6,.S 6,.Pl [(0,1),(1,1),(2,1),(3,1),(4,1),(5,1)],.F 1 1,.F 2 2,.F 3 3,.F 4 4,.F 5 5,.F 0 0]),(57,[.Sn,.Sl 4,.El 68 4 32]),(61,[.Z 2 [.string ⟨#[]⟩,.int .i64 0],.Pl [(0,1),(1,1)],.A 2,.S 2,.F 0 0,.F 1 1]),(62,[.El 61 2 24,.C,.Sn,.Sl 2]),(63,[.C,.Sn,.Sl 2]),(65,[.Z 4 [.string ⟨#[]⟩,.string ⟨#[]⟩,.slice none 0 0,.slice none 0 0],.Pl [(0,1),(1,1),(2,1),(3,1)],.A 4,.S 4,.F 1 1,.F 0 0,.F 2 2,.F 3 3]),(66,[.El 65 4 80,.Sn,.Sl 4]),(68,[.F 3 3,.Z 4 [.int .i64 0,.int .i64 0,.int .i64 0,.int .i64 0],.Pl [(0,1),(1,1),(2,1),(3,1)],.S 4,.F 2 2,.A 4]),(69,[.S 1,.C]),(71,[.F 0 0,.F 2 2,.Z 3 [.int .i64 0,.string ⟨#[]⟩,.int .i64 0],.Pl [(0,1),(1,1),(2,1)],.S 3,.F 1 1,.A 3]),(73,[.Z 7 [.string ⟨#[]⟩,.int .i64 0,.int .i64 0,.string ⟨#[]⟩,.int .i64 0,.int .i64 0,.int .i64 0],.Pl [(0,1),(1,1),(2,3),(5,1),(6,1)],.S 7,.F 2 2,.F 4 6,.F 3 5,.F 1 1,.F 0 0]),(81,[.C,.Mn]),(86,[.A 6,.Z 6 [.string ⟨#[]⟩,.string ⟨#[]⟩,.string ⟨#[]⟩,.string ⟨#[]⟩,.string ⟨#[]⟩,.string ⟨#[]⟩],.Arr 6 1,.S 6,.AC 6 9]),(98,[.Sn,.Sl 3,.El 139 3 40]),(119,[.I .u32,.U]),(137,[.C,.Sn,.Sl 1,.El 3 1 8,.S 1]),(139,[.A 3,.Z 3 [.int .i64 0,.int .i64 0,.slice none 0 0],.S 3,.F 0 0,.F 1 1,.F 2 2,.Pl [(0,1),(1,1),(2,1)]]),(149,[.Z 4 [.bool false,.bool false,.bool false,.int .i64 0],.S 4,.F 0 0,.F 1 1,.F 2 2,.Pl [(0,1),(1,1),(2,1),(3,1)],.F 3 3]),(150,[.AA 9 4 149,.A 36,.Z 36 [.bool false,.bool false,.bool false,.int .i64 0,.bool false,.bool false,.bool false,.int .i64 0,.bool false,.bool false,.bool false,.int .i64 0,.bool false,.bool false,.bool false,.int .i64 0,.bool false,.bool false,.bool false,.int .i64 0,.bool false,.bool false,.bool false,.int .i64 0,.bool false,.bool false,.bool false,.int .i64 0,.bool false,.bool false,.bool false,.int .i64 0,.bool false,.bool false,.bool false,.int .i64 0],.Arr 9 4,.S 36]),(158,[.Z 24 [.int .u8 0,.int .u8 0,.int .u8 0,.int .u8 0,.int .u8 0,.int .u8 0,.int .u8 0,.int .u8 0,.int .u8 0,.int .u8 0,.int .u8 0,.int .u8 0,.int .u8 0,.int .u8 0,.int .u8 0,.int .u8 0,.int .u8 0,.int .u8 0,.int .u8 0,.int .u8 0,.int .u8 0,.int .u8 0,.int .u8 0,.int .u8 0],.Arr 24 1]),(159,[.I .u64,.C,.U]),(169,[.Z 1 [.nilIface],.C]),(172,[.C]),(174,[.A 2,.Z 2 [.map none,.map none],.Pl [(0,1),(1,1)],.S 2,.F 0 0,.F 1 1]),(194,[.Arr 20 1]),(195,[.Z 65 [.int .u8 0,.int .u8 0,.int .u8 0,.int .u8 0,.int .u8 0,.int .u8 0,.int .u8 0,.int .u8 0,.int .u8 0,.int .u8 0,.int .u8 0,.int .u8 0,.int .u8 0,.int .u8 0,.int .u8 0,.int .u8 0,.int .u8 0,.int .u8 0,.int .u8 0,.int .u8 0,.int .u8 0,.int .u8 0,.int .u8 0,.int .u8 0,.int .u8 0,.int .u8 0,.int .u8 0,.int .u8 0,.int .u8 0,.int .u8 0,.int .u8 0,.int .u8 0,.int .u8 0,.int .u8 0,.int .u8 0,.int .u8 0,.int .u8 0,.int .u8 0,.int .u8 0,.int .u8 0,.int .u8 0,.int .u8 0,.int .u8 0,.int .u8 0,.int .u8 0,.int .u8 0,.int .u8 0,.int .u8 0,.int .u8 0,.int .u8 0,.int .u8 0,.int .u8 0,.int .u8 0,.int .u8 0,.int .u8 0,.int .u8 0,.int .u8 0,.int .u8 0,.int .u8 0,.int .u8 0,.int .u8 0,.int .u8 0,.int .u8 0,.int .u8 0,.int .u8 0],.Arr 65 1]),(196,[.I .u64,.U]),(200,[.A 2,.Z 2 [.string ⟨#[]⟩,.string ⟨#[]⟩],.S 2,.F 0 0,.F 1 1]),(201,[.El 169 1 16,.Sn,.Sl 1,.C]),(203,[.Z 2 [.string ⟨#[]⟩,.slice none 0 0],.Pl [(0,1),(1,1)],.Cn,.S 2,.F 0 0,.F 1 1,.M "provender/policy.holds" 207]),(204,[.Z 2 [.string ⟨#[]⟩,.slice none 0 0],.Pl [(0,1),(1,1)],.Cn,.S 2,.F 0 0,.F 1 1,.M "provender/policy.holds" 210]),(206,[.Z 1 [.string ⟨#[]⟩],.Pl [(0,1)],.Cn,.S 1,.F 0 0,.M "provender/policy.holds" 214]),(208,[.Z 3 [.string ⟨#[]⟩,.int .i64 0,.int .i64 0],.Pl [(0,1),(1,1),(2,1)],.Cn,.S 3,.F 0 0,.F 1 1,.F 2 2,.M "provender/policy.holds" 215]),(210,[.Z 1 [.nilIface],.Pl [(0,1)],.Cn,.S 1,.F 0 0,.M "provender/policy.holds" 217]),(212,[.Z 1 [.slice none 0 0],.Pl [(0,1)],.Cn,.S 1,.F 0 0,.M "provender/policy.holds" 218]),(213,[.Z 1 [.slice none 0 0],.Pl [(0,1)],.Cn,.S 1,.F 0 0,.M "provender/policy.holds" 219]),(214,[.Z 0 [],.Pl [],.Cn,.S 0,.M "provender/policy.holds" 220]),(216,[.Z 4 [.bool false,.bool false,.string ⟨#[]⟩,.int .i64 0],.S 4,.F 0 0,.F 2 2,.A 4,.F 1 1,.F 3 3]),(217,[.Cn]),(220,[.Cn]),(241,[.Z 3 [.string ⟨#[]⟩,.string ⟨#[]⟩,.nilIface],.Pl [(0,1),(1,1),(2,1)],.S 3]),(253,[.Arr 32 1]),(254,[.Arr 64 1]),(256,[.Cn]),(258,[.Z 1 [.string ⟨#[]⟩],.Pl [(0,1)],.S 1])]
theorem evtt_ok:TTok Tryz.prog evtt:=tt_b (by kernel_rfl) (by kernel_rfl) ⟨⟨fun v args w=>by kernel_rfl,fun v w=>by kernel_rfl⟩,⟨fun v args w=>by kernel_rfl,fun v w=>by kernel_rfl⟩,⟨fun v args w=>by kernel_rfl,fun v w=>by kernel_rfl⟩,⟨fun v args w=>by kernel_rfl,fun v w=>by kernel_rfl⟩,⟨fun v args w=>by kernel_rfl,fun v w=>by kernel_rfl⟩,⟨fun v args w=>by kernel_rfl,fun v w=>by kernel_rfl⟩,⟨fun v args w=>by kernel_rfl,fun v w=>by kernel_rfl⟩,⟨fun v args w=>by kernel_rfl,fun v w=>by kernel_rfl⟩,trivial⟩
def evmt:List MT:=[⟨81,9,4,true,.i64,.con (.bool false)⟩,⟨172,9,216,true,.i64,.agg [.con (.bool false),.con (.bool false),.con (.string ⟨#[]⟩),.con (.int .i64 0)]⟩]
theorem evmt_ok:MTok Tryz.prog evmt:=by
 intro p hp
 simp only[evmt,am8,List.not_mem_nil,or_false] at hp
 rcases hp with rfl|rfl
 ·exact⟨by kernel_rfl,keyT_str (by kernel_rfl),_,by kernel_rfl,fun _=>(.con _)⟩
 ·exact⟨by kernel_rfl,keyT_str (by kernel_rfl),_,by kernel_rfl,fun _=>(irel_agg [Value.bool false,Value.bool false,Value.string ⟨#[]⟩,Value.int .i64 0])⟩
def xAtoi:List V->Option V
 |[.con (.string s)]=>(match Lib.atoi s.data.toList with
  |some n=>(match Nat.ble s.size 18 with|true=>some (.tup [.con (.int .i64 n),.con .nilIface])|false=>none)
  |none=>none)
 |_=>none
theorem xAtoi_ok{gl:Gl}{avs:List V}{v:V}(h:xAtoi avs=some v):PureG gl Tryz.prog 86 avs v:=by
 unfold xAtoi at h
 split at h
 ·rename_i s
  split at h
  ·rename_i n hn
   split at h
   ·rename_i hl
    simp only[aq8] at h;subst h
    refine pure_below (l:=[.string s]) (v:=.tuple #[.int .i64 n,.nilIface]) (fun w=>(Go.Proofs.Tryz.strconv_Atoi s n (ar9 hl) hn w).mono ?_) (fun m=>.tup rfl fun i c v a b=>?_)
    ·rintro e w' ⟨rfl,t,rfl⟩
     exact⟨rfl,Go.Joins.below_bytesWorld _ w 5 t (ab8 _),trivial⟩
    ·match i with
     |0=>simp at a b;subst a b;exact .con _
     |1=>simp at a b;subst a b;exact .con _
     |i+2=>simp at a
   ·simp at h
  ·simp at h
 ·simp at h
def evxt:XT:=[(86,xAtoi)]
theorem evxt_ok{gl:Gl}:XTok gl Tryz.prog evxt:=by
 intro p hp
 simp only[evxt,am8,List.not_mem_nil,or_false] at hp
 subst hp
 exact⟨by kernel_rfl,fun avs v h=>xAtoi_ok h⟩
theorem kmixed:Tryz.prog.follows .mixedOrders=true:=by kernel_rfl
theorem told_run:evF evft evxt evtt evmt 6000 6 []=some (.con (.bool true)):=by kernel_rfl
theorem told_pure{gl:Gl}:PureG gl Tryz.prog 6 [] (bV true):=evF_ok evft_ok evxt_ok evtt_ok evmt_ok kmixed told_run
end Go.Proofs.YtppfkkkifdbnaaaGreatDoor
