import Derived.Shelf.SlIterI.Nil
import Derived.Shelf.SortM.Plain
import Derived.Shelf.SortM.SortNone
import Derived.Shelf.SlSortCmp.WholeK
import Derived.Ground.GgzProg
import Derived.Ground.SlgmProg
import Derived.Test.YtldolcbbmnmjoaaGreatProg
set_option maxRecDepth 8000
set_option maxHeartbeats 16000000
set_option linter.unusedVariables false
set_option linter.unusedSimpArgs false
set_option linter.unusedSectionVars false
set_option linter.defProp false
namespace Go.Proofs.YtldolcbbmnmjoaaGreat
open Go.Shelf
def Ae:Go.Shelf.Ren:=⟨λ|7=>245|10=>290|n=>n,λ|23=>336|26=>3|3=>337|28=>339|0=>0|27=>241|33=>116|4=>4|n=>n,λ|n=>n⟩
theorem Qy:Go.Proofs.SlLaysZI.n7 Tryz.prog Ae:={
 mixed:=by kernel_rfl
 f7:=⟨Tryz.f245.name,by decide,Tryz.func245.trans (congrArg some (by kernel_rfl))⟩
 f10:=⟨Tryz.f290.name,by decide,Tryz.func290.trans (congrArg some (by kernel_rfl))⟩
 t0:=Tryz.underlying0
 a0:=Tryz.isAgg0
 z0:=Tryz.sizeOf0
 v0:=Tryz.zeroValue0
 t4:=Tryz.underlying4
 a4:=Tryz.isAgg4
 z4:=Tryz.sizeOf4
 v4:=Tryz.zeroValue4
 t23:=Tryz.underlying336
 a23:=Tryz.isAgg336
 z23:=Tryz.sizeOf336
 v23:=Tryz.zeroValue336
 t26:=Tryz.underlying3
 a26:=Tryz.isAgg3
 z26:=Tryz.sizeOf3
 v26:=Tryz.zeroValue3
 t27:=Tryz.underlying241
 a27:=Tryz.isAgg241
 z27:=Tryz.sizeOf241
 v27:=Tryz.zeroValue241
 t28:=Tryz.underlying339
 a28:=Tryz.isAgg339
 z28:=Tryz.sizeOf339
 v28:=Tryz.zeroValue339
 t33:=Tryz.underlying116
 a33:=Tryz.isAgg116
 z33:=Tryz.sizeOf116
 v33:=Tryz.zeroValue116}
def Af:Go.Shelf.Ren:=⟨λ|7=>246|10=>291|n=>n,λ|23=>337|26=>3|3=>207|28=>339|0=>0|27=>241|33=>116|4=>4|n=>n,λ|n=>n⟩
theorem Qz:Go.Proofs.SlLaysZI.n7 Tryz.prog Af:={
 mixed:=by kernel_rfl
 f7:=⟨Tryz.f246.name,by decide,Tryz.func246.trans (congrArg some (by kernel_rfl))⟩
 f10:=⟨Tryz.f291.name,by decide,Tryz.func291.trans (congrArg some (by kernel_rfl))⟩
 t0:=Tryz.underlying0
 a0:=Tryz.isAgg0
 z0:=Tryz.sizeOf0
 v0:=Tryz.zeroValue0
 t4:=Tryz.underlying4
 a4:=Tryz.isAgg4
 z4:=Tryz.sizeOf4
 v4:=Tryz.zeroValue4
 t23:=Tryz.underlying337
 a23:=Tryz.isAgg337
 z23:=Tryz.sizeOf337
 v23:=Tryz.zeroValue337
 t26:=Tryz.underlying3
 a26:=Tryz.isAgg3
 z26:=Tryz.sizeOf3
 v26:=Tryz.zeroValue3
 t27:=Tryz.underlying241
 a27:=Tryz.isAgg241
 z27:=Tryz.sizeOf241
 v27:=Tryz.zeroValue241
 t28:=Tryz.underlying339
 a28:=Tryz.isAgg339
 z28:=Tryz.sizeOf339
 v28:=Tryz.zeroValue339
 t33:=Tryz.underlying116
 a33:=Tryz.isAgg116
 z33:=Tryz.sizeOf116
 v33:=Tryz.zeroValue116}
def uL:Go.Shelf.Ren:=⟨λ|6=>244|8=>288|9=>289|11=>316|13=>318|12=>317|23=>346|24=>347|14=>337|15=>338|16=>339|17=>340|18=>341|19=>342|20=>343|21=>344|22=>345|25=>363|26=>364|27=>365|28=>366|29=>367|30=>368|31=>378|n=>n,λ|26=>3|28=>339|24=>86|0=>0|3=>3|37=>158|48=>222|50=>43|4=>4|40=>443|39=>442|45=>384|5=>5|9=>9|51=>458|55=>214|57=>467|58=>468|33=>116|n=>n,λ|n=>n⟩
theorem P5:Go.Proofs.SlLaysZI.n6 Tryz.prog uL:={
 mixed:=by kernel_rfl
 f6:=⟨Tryz.f244.name,by decide,Tryz.func244.trans (congrArg some (by kernel_rfl))⟩
 f8:=⟨Tryz.f288.name,by decide,Tryz.func288.trans (congrArg some (by kernel_rfl))⟩
 f11:=⟨Tryz.f316.name,by decide,Tryz.func316.trans (congrArg some (by kernel_rfl))⟩
 t0:=Tryz.underlying0
 a0:=Tryz.isAgg0
 z0:=Tryz.sizeOf0
 v0:=Tryz.zeroValue0
 t24:=Tryz.underlying86
 a24:=Tryz.isAgg86
 z24:=Tryz.sizeOf86
 v24:=Tryz.zeroValue86
 t26:=Tryz.underlying3
 a26:=Tryz.isAgg3
 z26:=Tryz.sizeOf3
 v26:=Tryz.zeroValue3
 t28:=Tryz.underlying339
 a28:=Tryz.isAgg339
 z28:=Tryz.sizeOf339
 v28:=Tryz.zeroValue339
 i26:=by kernel_rfl}
def Kj:Go.Shelf.Ren:=⟨λ|5=>289|8=>318|7=>317|19=>346|20=>347|10=>337|11=>338|12=>339|13=>340|14=>341|15=>342|16=>343|17=>344|18=>345|30=>363|31=>364|32=>365|33=>366|34=>367|35=>368|40=>378|n=>n,λ|23=>86|25=>3|3=>3|32=>158|22=>86|0=>0|44=>222|46=>43|4=>4|36=>443|35=>442|41=>384|5=>5|9=>9|53=>458|57=>214|63=>467|64=>468|n=>n,λ|n=>n⟩
theorem QO:Go.Proofs.SlLaysM.n5 Tryz.prog Kj:={
 mixed:=by kernel_rfl
 f5:=⟨Tryz.f289.name,by decide,Tryz.func289.trans (congrArg some (by kernel_rfl))⟩
 f7:=⟨Tryz.f317.name,by decide,Tryz.func317.trans (congrArg some (by kernel_rfl))⟩
 f8:=Tryz.func318.trans (congrArg some (by kernel_rfl))
 f10:=⟨Tryz.f337.name,by decide,Tryz.func337.trans (congrArg some (by kernel_rfl))⟩
 f11:=⟨Tryz.f338.name,by decide,Tryz.func338.trans (congrArg some (by kernel_rfl))⟩
 f12:=⟨Tryz.f339.name,by decide,Tryz.func339.trans (congrArg some (by kernel_rfl))⟩
 f13:=⟨Tryz.f340.name,by decide,Tryz.func340.trans (congrArg some (by kernel_rfl))⟩
 f14:=⟨Tryz.f341.name,by decide,Tryz.func341.trans (congrArg some (by kernel_rfl))⟩
 f15:=⟨Tryz.f342.name,by decide,Tryz.func342.trans (congrArg some (by kernel_rfl))⟩
 f16:=⟨Tryz.f343.name,by decide,Tryz.func343.trans (congrArg some (by kernel_rfl))⟩
 f17:=⟨Tryz.f344.name,by decide,Tryz.func344.trans (congrArg some (by kernel_rfl))⟩
 f18:=⟨Tryz.f345.name,by decide,Tryz.func345.trans (congrArg some (by kernel_rfl))⟩
 f19:=Tryz.func346.trans (congrArg some (by kernel_rfl))
 f20:=Tryz.func347.trans (congrArg some (by kernel_rfl))
 f30:=⟨Tryz.f363.name,by decide,Tryz.func363.trans (congrArg some (by kernel_rfl))⟩
 f31:=Tryz.func364.trans (congrArg some (by kernel_rfl))
 f32:=Tryz.func365.trans (congrArg some (by kernel_rfl))
 f33:=⟨Tryz.f366.name,by decide,Tryz.func366.trans (congrArg some (by kernel_rfl))⟩
 f34:=⟨Tryz.f367.name,by decide,Tryz.func367.trans (congrArg some (by kernel_rfl))⟩
 f35:=⟨Tryz.f368.name,by decide,Tryz.func368.trans (congrArg some (by kernel_rfl))⟩
 f40:=⟨Tryz.f378.name,by decide,Tryz.func378.trans (congrArg some (by kernel_rfl))⟩
 t0:=Tryz.underlying0
 a0:=Tryz.isAgg0
 z0:=Tryz.sizeOf0
 v0:=Tryz.zeroValue0
 t3:=Tryz.underlying3
 a3:=Tryz.isAgg3
 z3:=Tryz.sizeOf3
 v3:=Tryz.zeroValue3
 t4:=Tryz.underlying4
 a4:=Tryz.isAgg4
 z4:=Tryz.sizeOf4
 v4:=Tryz.zeroValue4
 t5:=Tryz.underlying5
 a5:=Tryz.isAgg5
 z5:=Tryz.sizeOf5
 v5:=Tryz.zeroValue5
 t9:=Tryz.underlying9
 a9:=Tryz.isAgg9
 z9:=Tryz.sizeOf9
 v9:=Tryz.zeroValue9
 t22:=Tryz.underlying86
 a22:=Tryz.isAgg86
 z22:=Tryz.sizeOf86
 v22:=Tryz.zeroValue86
 t23:=Tryz.underlying86
 a23:=Tryz.isAgg86
 z23:=Tryz.sizeOf86
 v23:=Tryz.zeroValue86
 t25:=Tryz.underlying3
 a25:=Tryz.isAgg3
 z25:=Tryz.sizeOf3
 v25:=Tryz.zeroValue3
 t32:=Tryz.underlying158
 a32:=Tryz.isAgg158
 z32:=Tryz.sizeOf158
 v32:=Tryz.zeroValue158
 t35:=Tryz.underlying442
 a35:=Tryz.isAgg442
 z35:=Tryz.sizeOf442
 v35:=Tryz.zeroValue442
 t36:=Tryz.underlying443
 a36:=Tryz.isAgg443
 z36:=Tryz.sizeOf443
 v36:=Tryz.zeroValue443
 t41:=Tryz.underlying384
 a41:=Tryz.isAgg384
 z41:=Tryz.sizeOf384
 v41:=Tryz.zeroValue384
 t44:=Tryz.underlying222
 a44:=Tryz.isAgg222
 z44:=Tryz.sizeOf222
 v44:=Tryz.zeroValue222
 t46:=Tryz.underlying43
 a46:=Tryz.isAgg43
 z46:=Tryz.sizeOf43
 v46:=Tryz.zeroValue43
 t53:=Tryz.underlying458
 a53:=Tryz.isAgg458
 z53:=Tryz.sizeOf458
 v53:=Tryz.zeroValue458
 t57:=Tryz.underlying214
 a57:=Tryz.isAgg214
 z57:=Tryz.sizeOf214
 v57:=Tryz.zeroValue214
 t63:=Tryz.underlying467
 a63:=Tryz.isAgg467
 z63:=Tryz.sizeOf467
 v63:=Tryz.zeroValue467
 t64:=Tryz.underlying468
 a64:=Tryz.isAgg468
 z64:=Tryz.sizeOf468
 v64:=Tryz.zeroValue468}
end Go.Proofs.YtldolcbbmnmjoaaGreat
