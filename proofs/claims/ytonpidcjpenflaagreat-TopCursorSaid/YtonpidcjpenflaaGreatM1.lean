import Derived.Shelf.SlIterI.Nil
import Derived.Shelf.SortM.Plain
import Derived.Shelf.SortM.SortNone
import Derived.Shelf.SlSortCmp.WholeK
import Derived.Ground.GgzProg
import Derived.Ground.SlgmProg
import Derived.Test.YtonpidcjpenflaaGreatProg
set_option maxRecDepth 8000
set_option maxHeartbeats 16000000
set_option linter.unusedVariables false
set_option linter.unusedSimpArgs false
set_option linter.unusedSectionVars false
set_option linter.defProp false
namespace Go.Proofs.YtonpidcjpenflaaGreat
open Go.Shelf
def Ae:Go.Shelf.Ren:=⟨λ|7=>249|10=>294|n=>n,λ|23=>339|26=>3|3=>340|28=>342|0=>0|27=>244|33=>121|4=>4|n=>n,λ|n=>n⟩
theorem Qy:Go.Proofs.SlLaysZI.n7 Tryz.prog Ae:={
 mixed:=by kernel_rfl
 f7:=⟨Tryz.f249.name,by decide,Tryz.func249.trans (congrArg some (by kernel_rfl))⟩
 f10:=⟨Tryz.f294.name,by decide,Tryz.func294.trans (congrArg some (by kernel_rfl))⟩
 t0:=Tryz.underlying0
 a0:=Tryz.isAgg0
 z0:=Tryz.sizeOf0
 v0:=Tryz.zeroValue0
 t4:=Tryz.underlying4
 a4:=Tryz.isAgg4
 z4:=Tryz.sizeOf4
 v4:=Tryz.zeroValue4
 t23:=Tryz.underlying339
 a23:=Tryz.isAgg339
 z23:=Tryz.sizeOf339
 v23:=Tryz.zeroValue339
 t26:=Tryz.underlying3
 a26:=Tryz.isAgg3
 z26:=Tryz.sizeOf3
 v26:=Tryz.zeroValue3
 t27:=Tryz.underlying244
 a27:=Tryz.isAgg244
 z27:=Tryz.sizeOf244
 v27:=Tryz.zeroValue244
 t28:=Tryz.underlying342
 a28:=Tryz.isAgg342
 z28:=Tryz.sizeOf342
 v28:=Tryz.zeroValue342
 t33:=Tryz.underlying121
 a33:=Tryz.isAgg121
 z33:=Tryz.sizeOf121
 v33:=Tryz.zeroValue121}
def Af:Go.Shelf.Ren:=⟨λ|7=>250|10=>295|n=>n,λ|23=>340|26=>3|3=>208|28=>342|0=>0|27=>244|33=>121|4=>4|n=>n,λ|n=>n⟩
theorem Qz:Go.Proofs.SlLaysZI.n7 Tryz.prog Af:={
 mixed:=by kernel_rfl
 f7:=⟨Tryz.f250.name,by decide,Tryz.func250.trans (congrArg some (by kernel_rfl))⟩
 f10:=⟨Tryz.f295.name,by decide,Tryz.func295.trans (congrArg some (by kernel_rfl))⟩
 t0:=Tryz.underlying0
 a0:=Tryz.isAgg0
 z0:=Tryz.sizeOf0
 v0:=Tryz.zeroValue0
 t4:=Tryz.underlying4
 a4:=Tryz.isAgg4
 z4:=Tryz.sizeOf4
 v4:=Tryz.zeroValue4
 t23:=Tryz.underlying340
 a23:=Tryz.isAgg340
 z23:=Tryz.sizeOf340
 v23:=Tryz.zeroValue340
 t26:=Tryz.underlying3
 a26:=Tryz.isAgg3
 z26:=Tryz.sizeOf3
 v26:=Tryz.zeroValue3
 t27:=Tryz.underlying244
 a27:=Tryz.isAgg244
 z27:=Tryz.sizeOf244
 v27:=Tryz.zeroValue244
 t28:=Tryz.underlying342
 a28:=Tryz.isAgg342
 z28:=Tryz.sizeOf342
 v28:=Tryz.zeroValue342
 t33:=Tryz.underlying121
 a33:=Tryz.isAgg121
 z33:=Tryz.sizeOf121
 v33:=Tryz.zeroValue121}
def uL:Go.Shelf.Ren:=⟨λ|6=>248|8=>292|9=>293|11=>320|13=>322|12=>321|23=>350|24=>351|14=>341|15=>342|16=>343|17=>344|18=>345|19=>346|20=>347|21=>348|22=>349|25=>367|26=>368|27=>369|28=>370|29=>371|30=>372|31=>382|n=>n,λ|26=>3|28=>342|24=>89|0=>0|3=>3|37=>162|48=>225|50=>50|4=>4|40=>446|39=>445|45=>387|5=>5|9=>9|51=>461|55=>217|57=>470|58=>471|33=>121|n=>n,λ|n=>n⟩
theorem P5:Go.Proofs.SlLaysZI.n6 Tryz.prog uL:={
 mixed:=by kernel_rfl
 f6:=⟨Tryz.f248.name,by decide,Tryz.func248.trans (congrArg some (by kernel_rfl))⟩
 f8:=⟨Tryz.f292.name,by decide,Tryz.func292.trans (congrArg some (by kernel_rfl))⟩
 f11:=⟨Tryz.f320.name,by decide,Tryz.func320.trans (congrArg some (by kernel_rfl))⟩
 t0:=Tryz.underlying0
 a0:=Tryz.isAgg0
 z0:=Tryz.sizeOf0
 v0:=Tryz.zeroValue0
 t24:=Tryz.underlying89
 a24:=Tryz.isAgg89
 z24:=Tryz.sizeOf89
 v24:=Tryz.zeroValue89
 t26:=Tryz.underlying3
 a26:=Tryz.isAgg3
 z26:=Tryz.sizeOf3
 v26:=Tryz.zeroValue3
 t28:=Tryz.underlying342
 a28:=Tryz.isAgg342
 z28:=Tryz.sizeOf342
 v28:=Tryz.zeroValue342
 i26:=by kernel_rfl}
def Kj:Go.Shelf.Ren:=⟨λ|5=>293|8=>322|7=>321|19=>350|20=>351|10=>341|11=>342|12=>343|13=>344|14=>345|15=>346|16=>347|17=>348|18=>349|30=>367|31=>368|32=>369|33=>370|34=>371|35=>372|40=>382|n=>n,λ|23=>89|25=>3|3=>3|32=>162|22=>89|0=>0|44=>225|46=>50|4=>4|36=>446|35=>445|41=>387|5=>5|9=>9|53=>461|57=>217|63=>470|64=>471|n=>n,λ|n=>n⟩
theorem QO:Go.Proofs.SlLaysM.n5 Tryz.prog Kj:={
 mixed:=by kernel_rfl
 f5:=⟨Tryz.f293.name,by decide,Tryz.func293.trans (congrArg some (by kernel_rfl))⟩
 f7:=⟨Tryz.f321.name,by decide,Tryz.func321.trans (congrArg some (by kernel_rfl))⟩
 f8:=Tryz.func322.trans (congrArg some (by kernel_rfl))
 f10:=⟨Tryz.f341.name,by decide,Tryz.func341.trans (congrArg some (by kernel_rfl))⟩
 f11:=⟨Tryz.f342.name,by decide,Tryz.func342.trans (congrArg some (by kernel_rfl))⟩
 f12:=⟨Tryz.f343.name,by decide,Tryz.func343.trans (congrArg some (by kernel_rfl))⟩
 f13:=⟨Tryz.f344.name,by decide,Tryz.func344.trans (congrArg some (by kernel_rfl))⟩
 f14:=⟨Tryz.f345.name,by decide,Tryz.func345.trans (congrArg some (by kernel_rfl))⟩
 f15:=⟨Tryz.f346.name,by decide,Tryz.func346.trans (congrArg some (by kernel_rfl))⟩
 f16:=⟨Tryz.f347.name,by decide,Tryz.func347.trans (congrArg some (by kernel_rfl))⟩
 f17:=⟨Tryz.f348.name,by decide,Tryz.func348.trans (congrArg some (by kernel_rfl))⟩
 f18:=⟨Tryz.f349.name,by decide,Tryz.func349.trans (congrArg some (by kernel_rfl))⟩
 f19:=Tryz.func350.trans (congrArg some (by kernel_rfl))
 f20:=Tryz.func351.trans (congrArg some (by kernel_rfl))
 f30:=⟨Tryz.f367.name,by decide,Tryz.func367.trans (congrArg some (by kernel_rfl))⟩
 f31:=Tryz.func368.trans (congrArg some (by kernel_rfl))
 f32:=Tryz.func369.trans (congrArg some (by kernel_rfl))
 f33:=⟨Tryz.f370.name,by decide,Tryz.func370.trans (congrArg some (by kernel_rfl))⟩
 f34:=⟨Tryz.f371.name,by decide,Tryz.func371.trans (congrArg some (by kernel_rfl))⟩
 f35:=⟨Tryz.f372.name,by decide,Tryz.func372.trans (congrArg some (by kernel_rfl))⟩
 f40:=⟨Tryz.f382.name,by decide,Tryz.func382.trans (congrArg some (by kernel_rfl))⟩
 t0:=Tryz.underlying0
 a0:=Tryz.isAgg0
 z0:=Tryz.sizeOf0
 v0:=Tryz.zeroValue0
 t3:=Tryz.underlying3
 a3:=Tryz.isAgg3
 z3:=Tryz.sizeOf3
 v3:=Tryz.zeroValue3
 t4:=Tryz.underlying4
 a4:=Tryz.isAgg4
 z4:=Tryz.sizeOf4
 v4:=Tryz.zeroValue4
 t5:=Tryz.underlying5
 a5:=Tryz.isAgg5
 z5:=Tryz.sizeOf5
 v5:=Tryz.zeroValue5
 t9:=Tryz.underlying9
 a9:=Tryz.isAgg9
 z9:=Tryz.sizeOf9
 v9:=Tryz.zeroValue9
 t22:=Tryz.underlying89
 a22:=Tryz.isAgg89
 z22:=Tryz.sizeOf89
 v22:=Tryz.zeroValue89
 t23:=Tryz.underlying89
 a23:=Tryz.isAgg89
 z23:=Tryz.sizeOf89
 v23:=Tryz.zeroValue89
 t25:=Tryz.underlying3
 a25:=Tryz.isAgg3
 z25:=Tryz.sizeOf3
 v25:=Tryz.zeroValue3
 t32:=Tryz.underlying162
 a32:=Tryz.isAgg162
 z32:=Tryz.sizeOf162
 v32:=Tryz.zeroValue162
 t35:=Tryz.underlying445
 a35:=Tryz.isAgg445
 z35:=Tryz.sizeOf445
 v35:=Tryz.zeroValue445
 t36:=Tryz.underlying446
 a36:=Tryz.isAgg446
 z36:=Tryz.sizeOf446
 v36:=Tryz.zeroValue446
 t41:=Tryz.underlying387
 a41:=Tryz.isAgg387
 z41:=Tryz.sizeOf387
 v41:=Tryz.zeroValue387
 t44:=Tryz.underlying225
 a44:=Tryz.isAgg225
 z44:=Tryz.sizeOf225
 v44:=Tryz.zeroValue225
 t46:=Tryz.underlying50
 a46:=Tryz.isAgg50
 z46:=Tryz.sizeOf50
 v46:=Tryz.zeroValue50
 t53:=Tryz.underlying461
 a53:=Tryz.isAgg461
 z53:=Tryz.sizeOf461
 v53:=Tryz.zeroValue461
 t57:=Tryz.underlying217
 a57:=Tryz.isAgg217
 z57:=Tryz.sizeOf217
 v57:=Tryz.zeroValue217
 t63:=Tryz.underlying470
 a63:=Tryz.isAgg470
 z63:=Tryz.sizeOf470
 v63:=Tryz.zeroValue470
 t64:=Tryz.underlying471
 a64:=Tryz.isAgg471
 z64:=Tryz.sizeOf471
 v64:=Tryz.zeroValue471}
end Go.Proofs.YtonpidcjpenflaaGreat
