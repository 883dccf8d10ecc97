/- Contracts and plain laws that the proof of the top laws uses (G01). No condition beyond those stated. -/
import Derived.Shelf.SlGeneric
import Derived.Shelf.SlSortCmp.WholeK
import Derived.Shelf.SlicesG.Cmp
import Derived.Shelf.SlIterI.Sorted
import Derived.Ground.SlsfProg
import Derived.Ground.SlgcProg
import Derived.Ground.GgzProg
import Derived.Test.YtdnpopjabpklnaaGreatDoorProg
set_option maxRecDepth 100000
set_option maxHeartbeats 64000000
set_option linter.all false
namespace Go.Proofs
open Tryz
open Go.Shelf
def Tryz.Gh:Go.Shelf.Ren:=⟨fun|6=>200|15=>110|14=>244|28=>166|29=>167|20=>271|21=>272|22=>273|23=>274|24=>275|25=>276|26=>277|27=>278|46=>294|47=>211|48=>212|49=>295|50=>296|57=>302|n=>n,fun|22=>29|24=>158|25=>277|3=>3|39=>191|0=>0|53=>238|55=>89|4=>4|46=>232|45=>231|50=>184|5=>5|9=>9|66=>280|70=>265|76=>307|77=>308|n=>n,fun|n=>n⟩
theorem Tryz.Hk:Go.Proofs.SlLaysF0.n6 prog Gh:= {
 mixed:=by kernel_rfl
 f6:=⟨f200.name,by decide,func200.trans (congrArg some (by kernel_rfl))⟩
 f14:=⟨f244.name,by decide,func244.trans (congrArg some (by kernel_rfl))⟩
 f15:=func110.trans (congrArg some (by kernel_rfl))
 f20:=⟨f271.name,by decide,func271.trans (congrArg some (by kernel_rfl))⟩
 f21:=⟨f272.name,by decide,func272.trans (congrArg some (by kernel_rfl))⟩
 f22:=⟨f273.name,by decide,func273.trans (congrArg some (by kernel_rfl))⟩
 f23:=⟨f274.name,by decide,func274.trans (congrArg some (by kernel_rfl))⟩
 f24:=⟨f275.name,by decide,func275.trans (congrArg some (by kernel_rfl))⟩
 f25:=⟨f276.name,by decide,func276.trans (congrArg some (by kernel_rfl))⟩
 f26:=⟨f277.name,by decide,func277.trans (congrArg some (by kernel_rfl))⟩
 f27:=⟨f278.name,by decide,func278.trans (congrArg some (by kernel_rfl))⟩
 f28:=func166.trans (congrArg some (by kernel_rfl))
 f29:=func167.trans (congrArg some (by kernel_rfl))
 f46:=⟨f294.name,by decide,func294.trans (congrArg some (by kernel_rfl))⟩
 f47:=func211.trans (congrArg some (by kernel_rfl))
 f48:=func212.trans (congrArg some (by kernel_rfl))
 f49:=⟨f295.name,by decide,func295.trans (congrArg some (by kernel_rfl))⟩
 f50:=⟨f296.name,by decide,func296.trans (congrArg some (by kernel_rfl))⟩
 f57:=⟨f302.name,by decide,func302.trans (congrArg some (by kernel_rfl))⟩
 t0:=underlying0
 a0:=isAgg0
 z0:=sizeOf0
 v0:=zeroValue0
 t3:=underlying3
 a3:=isAgg3
 z3:=sizeOf3
 v3:=zeroValue3
 t4:=underlying4
 a4:=isAgg4
 z4:=sizeOf4
 v4:=zeroValue4
 t5:=underlying5
 a5:=isAgg5
 z5:=sizeOf5
 v5:=zeroValue5
 t9:=underlying9
 a9:=isAgg9
 z9:=sizeOf9
 v9:=zeroValue9
 t22:=underlying29
 a22:=isAgg29
 z22:=sizeOf29
 v22:=zeroValue29
 t25:=underlying277
 a25:=isAgg277
 z25:=sizeOf277
 v25:=zeroValue277
 t39:=underlying191
 a39:=isAgg191
 z39:=sizeOf191
 v39:=zeroValue191
 t45:=underlying231
 a45:=isAgg231
 z45:=sizeOf231
 v45:=zeroValue231
 t46:=underlying232
 a46:=isAgg232
 z46:=sizeOf232
 v46:=zeroValue232
 t50:=underlying184
 a50:=isAgg184
 z50:=sizeOf184
 v50:=zeroValue184
 t53:=underlying238
 a53:=isAgg238
 z53:=sizeOf238
 v53:=zeroValue238
 t55:=underlying89
 a55:=isAgg89
 z55:=sizeOf89
 v55:=zeroValue89
 t66:=underlying280
 a66:=isAgg280
 z66:=sizeOf280
 v66:=zeroValue280
 t70:=underlying265
 a70:=isAgg265
 z70:=sizeOf265
 v70:=zeroValue265
 t76:=underlying307
 a76:=isAgg307
 z76:=sizeOf307
 v76:=zeroValue307
 t77:=underlying308
 a77:=isAgg308
 z77:=sizeOf308
 v77:=zeroValue308}
def Tryz.K_:Go.Shelf.Ren:=⟨fun|5=>203|7=>215|n=>n,fun|22=>3|3=>3|4=>4|n=>n,fun|n=>n⟩
theorem Tryz.RL:Go.Proofs.SlLaysC2.n5 prog K_:= {
 mixed:=by kernel_rfl
 f5:=⟨f203.name,by decide,func203.trans (congrArg some (by kernel_rfl))⟩
 f7:=⟨f215.name,by decide,func215.trans (congrArg some (by kernel_rfl))⟩
 t3:=underlying3
 a3:=isAgg3
 z3:=sizeOf3
 v3:=zeroValue3
 t4:=underlying4
 a4:=isAgg4
 z4:=sizeOf4
 v4:=zeroValue4
 t22:=underlying3
 a22:=isAgg3
 z22:=sizeOf3
 v22:=zeroValue3}
def Tryz.wL:Go.Shelf.Ren:=⟨fun|6=>114|8=>171|9=>50|11=>219|13=>110|12=>109|23=>166|24=>167|14=>157|15=>158|16=>159|17=>160|18=>161|19=>162|20=>163|21=>164|22=>165|25=>210|26=>211|27=>212|28=>213|29=>214|30=>215|31=>250|n=>n,fun|26=>3|28=>197|24=>22|0=>0|3=>3|37=>191|48=>238|50=>89|4=>4|40=>232|39=>231|45=>184|5=>5|9=>9|51=>280|55=>265|57=>307|58=>308|33=>244|n=>n,fun|n=>n⟩
theorem Tryz.U':Go.Proofs.SlLaysZI.n6 prog wL:= {
 mixed:=by kernel_rfl
 f6:=⟨f114.name,by decide,func114.trans (congrArg some (by kernel_rfl))⟩
 f8:=⟨f171.name,by decide,func171.trans (congrArg some (by kernel_rfl))⟩
 f11:=⟨f219.name,by decide,func219.trans (congrArg some (by kernel_rfl))⟩
 t0:=underlying0
 a0:=isAgg0
 z0:=sizeOf0
 v0:=zeroValue0
 t24:=underlying22
 a24:=isAgg22
 z24:=sizeOf22
 v24:=zeroValue22
 t26:=underlying3
 a26:=isAgg3
 z26:=sizeOf3
 v26:=zeroValue3
 t28:=underlying197
 a28:=isAgg197
 z28:=sizeOf197
 v28:=zeroValue197
 i26:=by kernel_rfl}
end Go.Proofs
