import Derived.Test.YtnhbioehiiifdaaGreatR01
import Derived.Shelf.SlSortCmp.KitK
set_option maxRecDepth 100000
set_option maxHeartbeats 16000000
set_option linter.all false
namespace Go.Proofs.YtnhbioehiiifdaaGreat
open Go.Shelf
def Tryz.sortPt_ren:Go.Shelf.Ren:=⟨fun|6=>264|15=>262|14=>291|28=>289|29=>290|20=>308|21=>309|22=>310|23=>311|24=>312|25=>313|26=>314|27=>315|46=>326|47=>303|48=>304|49=>327|50=>328|57=>341|n=>n,fun|22=>164|24=>168|25=>374|3=>3|39=>169|0=>0|53=>246|55=>107|4=>4|46=>389|45=>388|50=>394|5=>5|9=>9|66=>407|70=>411|76=>425|77=>327|n=>n,fun|n=>n⟩
theorem Tryz.sortPt:Go.Proofs.SlLaysF0.n6 Tryz.prog Tryz.sortPt_ren:={
 mixed:=by kernel_rfl
 f6:=⟨Tryz.f264.name,by decide,Tryz.func264.trans (A3 some (by kernel_rfl))⟩
 f14:=⟨Tryz.f291.name,by decide,Tryz.func291.trans (A3 some (by kernel_rfl))⟩
 f15:=Tryz.func262.trans (A3 some (by kernel_rfl))
 f20:=⟨Tryz.f308.name,by decide,Tryz.func308.trans (A3 some (by kernel_rfl))⟩
 f21:=⟨Tryz.f309.name,by decide,Tryz.func309.trans (A3 some (by kernel_rfl))⟩
 f22:=⟨Tryz.f310.name,by decide,Tryz.func310.trans (A3 some (by kernel_rfl))⟩
 f23:=⟨Tryz.f311.name,by decide,Tryz.func311.trans (A3 some (by kernel_rfl))⟩
 f24:=⟨Tryz.f312.name,by decide,Tryz.func312.trans (A3 some (by kernel_rfl))⟩
 f25:=⟨Tryz.f313.name,by decide,Tryz.func313.trans (A3 some (by kernel_rfl))⟩
 f26:=⟨Tryz.f314.name,by decide,Tryz.func314.trans (A3 some (by kernel_rfl))⟩
 f27:=⟨Tryz.f315.name,by decide,Tryz.func315.trans (A3 some (by kernel_rfl))⟩
 f28:=Tryz.func289.trans (A3 some (by kernel_rfl))
 f29:=Tryz.func290.trans (A3 some (by kernel_rfl))
 f46:=⟨Tryz.f326.name,by decide,Tryz.func326.trans (A3 some (by kernel_rfl))⟩
 f47:=Tryz.func303.trans (A3 some (by kernel_rfl))
 f48:=Tryz.func304.trans (A3 some (by kernel_rfl))
 f49:=⟨Tryz.f327.name,by decide,Tryz.func327.trans (A3 some (by kernel_rfl))⟩
 f50:=⟨Tryz.f328.name,by decide,Tryz.func328.trans (A3 some (by kernel_rfl))⟩
 f57:=⟨Tryz.f341.name,by decide,Tryz.func341.trans (A3 some (by kernel_rfl))⟩
 t0:=Tryz.underlying0
 a0:=Tryz.isAgg0
 z0:=Tryz.sizeOf0
 v0:=Tryz.zeroValue0
 t3:=ER
 a3:=Tryz.isAgg3
 z3:=Tryz.sizeOf3
 v3:=Tryz.zeroValue3
 t4:=Tryz.underlying4
 a4:=Tryz.isAgg4
 z4:=Tryz.sizeOf4
 v4:=Tryz.zeroValue4
 t5:=EQ
 a5:=Tryz.isAgg5
 z5:=Tryz.sizeOf5
 v5:=Tryz.zeroValue5
 t9:=BG
 a9:=Tryz.isAgg9
 z9:=Tryz.sizeOf9
 v9:=Tryz.zeroValue9
 t22:=Tryz.underlying164
 a22:=Tryz.isAgg164
 z22:=Tryz.sizeOf164
 v22:=Tryz.zeroValue164
 t25:=Tryz.underlying374
 a25:=Tryz.isAgg374
 z25:=Tryz.sizeOf374
 v25:=Tryz.zeroValue374
 t39:=Tryz.underlying169
 a39:=Tryz.isAgg169
 z39:=Tryz.sizeOf169
 v39:=Tryz.zeroValue169
 t45:=Tryz.underlying388
 a45:=Tryz.isAgg388
 z45:=Tryz.sizeOf388
 v45:=Tryz.zeroValue388
 t46:=Tryz.underlying389
 a46:=Tryz.isAgg389
 z46:=Tryz.sizeOf389
 v46:=Tryz.zeroValue389
 t50:=Tryz.underlying394
 a50:=Tryz.isAgg394
 z50:=Tryz.sizeOf394
 v50:=Tryz.zeroValue394
 t53:=Tryz.underlying246
 a53:=Tryz.isAgg246
 z53:=Tryz.sizeOf246
 v53:=Tryz.zeroValue246
 t55:=Tryz.underlying107
 a55:=Tryz.isAgg107
 z55:=Tryz.sizeOf107
 v55:=Tryz.zeroValue107
 t66:=Tryz.underlying407
 a66:=Tryz.isAgg407
 z66:=Tryz.sizeOf407
 v66:=Tryz.zeroValue407
 t70:=Tryz.underlying411
 a70:=Tryz.isAgg411
 z70:=Tryz.sizeOf411
 v70:=Tryz.zeroValue411
 t76:=Tryz.underlying425
 a76:=Tryz.isAgg425
 z76:=Tryz.sizeOf425
 v76:=Tryz.zeroValue425
 t77:=Tryz.underlying327
 a77:=Tryz.isAgg327
 z77:=Tryz.sizeOf327
 v77:=Tryz.zeroValue327}
end Go.Proofs.YtnhbioehiiifdaaGreat
