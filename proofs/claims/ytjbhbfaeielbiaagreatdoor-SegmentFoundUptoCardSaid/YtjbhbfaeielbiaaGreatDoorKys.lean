import Derived.Shelf.SlIter.Nil
import Derived.Shelf.SlIterI.Nil
import Derived.Shelf.SlGeneric
import Derived.Ground.GgzProg
import Derived.Test.YtjbhbfaeielbiaaGreatDoorProg
namespace Go.Proofs
open Go.Shelf
def Tryz.keysS_ren:Go.Shelf.Ren:=⟨fun|7=>116|10=>196|n=>n,fun|23=>144|26=>9|3=>219|28=>217|0=>0|27=>216|33=>289|4=>4|n=>n,fun|n=>n⟩
theorem Tryz.keysS:Go.Proofs.SlLaysZ.n7 Tryz.prog Tryz.keysS_ren:={
 mixed:=by kernel_rfl
 f7:=⟨Tryz.f116.name,by decide,Tryz.func116.trans (congrArg some (by kernel_rfl))⟩
 f10:=⟨Tryz.f196.name,by decide,Tryz.func196.trans (congrArg some (by kernel_rfl))⟩
 t0:=Tryz.underlying0
 a0:=Tryz.isAgg0
 z0:=Tryz.sizeOf0
 v0:=Tryz.zeroValue0
 t4:=Tryz.underlying4
 a4:=Tryz.isAgg4
 z4:=Tryz.sizeOf4
 v4:=Tryz.zeroValue4
 t23:=Tryz.underlying144
 a23:=Tryz.isAgg144
 z23:=Tryz.sizeOf144
 v23:=Tryz.zeroValue144
 t26:=Tryz.underlying9
 a26:=Tryz.isAgg9
 z26:=Tryz.sizeOf9
 v26:=Tryz.zeroValue9
 t27:=Tryz.underlying216
 a27:=Tryz.isAgg216
 z27:=Tryz.sizeOf216
 v27:=Tryz.zeroValue216
 t28:=Tryz.underlying217
 a28:=Tryz.isAgg217
 z28:=Tryz.sizeOf217
 v28:=Tryz.zeroValue217
 t33:=Tryz.underlying289
 a33:=Tryz.isAgg289
 z33:=Tryz.sizeOf289
 v33:=Tryz.zeroValue289}
def Tryz.sortedS_ren:Go.Shelf.Ren:=⟨fun|6=>115|8=>195|9=>192|11=>259|13=>257|12=>256|23=>303|24=>202|14=>295|15=>296|16=>297|17=>298|18=>299|19=>300|20=>272|21=>301|22=>302|25=>345|26=>346|27=>347|28=>348|29=>349|30=>324|31=>372|n=>n,fun|26=>9|28=>217|24=>129|0=>0|3=>3|37=>73|48=>72|50=>35|4=>4|40=>420|39=>419|45=>43|5=>5|9=>9|51=>453|55=>97|57=>472|58=>318|33=>289|n=>n,fun|n=>n⟩
theorem Tryz.sortedS:Go.Proofs.SlLaysZ.n6 Tryz.prog Tryz.sortedS_ren:={
 mixed:=by kernel_rfl
 f6:=⟨Tryz.f115.name,by decide,Tryz.func115.trans (congrArg some (by kernel_rfl))⟩
 f8:=⟨Tryz.f195.name,by decide,Tryz.func195.trans (congrArg some (by kernel_rfl))⟩
 f11:=⟨Tryz.f259.name,by decide,Tryz.func259.trans (congrArg some (by kernel_rfl))⟩
 t0:=Tryz.underlying0
 a0:=Tryz.isAgg0
 z0:=Tryz.sizeOf0
 v0:=Tryz.zeroValue0
 t24:=Tryz.underlying129
 a24:=Tryz.isAgg129
 z24:=Tryz.sizeOf129
 v24:=Tryz.zeroValue129
 t26:=Tryz.underlying9
 a26:=Tryz.isAgg9
 z26:=Tryz.sizeOf9
 v26:=Tryz.zeroValue9
 t28:=Tryz.underlying217
 a28:=Tryz.isAgg217
 z28:=Tryz.sizeOf217
 v28:=Tryz.zeroValue217
 i26:=by kernel_rfl}
def Tryz.keysI_ren:Go.Shelf.Ren:=⟨fun|7=>118|10=>199|n=>n,fun|23=>219|26=>3|3=>55|28=>222|0=>0|27=>221|33=>53|4=>4|n=>n,fun|n=>n⟩
theorem Tryz.keysI:Go.Proofs.SlLaysZI.n7 Tryz.prog Tryz.keysI_ren:={
 mixed:=by kernel_rfl
 f7:=⟨Tryz.f118.name,by decide,Tryz.func118.trans (congrArg some (by kernel_rfl))⟩
 f10:=⟨Tryz.f199.name,by decide,Tryz.func199.trans (congrArg some (by kernel_rfl))⟩
 t0:=Tryz.underlying0
 a0:=Tryz.isAgg0
 z0:=Tryz.sizeOf0
 v0:=Tryz.zeroValue0
 t4:=Tryz.underlying4
 a4:=Tryz.isAgg4
 z4:=Tryz.sizeOf4
 v4:=Tryz.zeroValue4
 t23:=Tryz.underlying219
 a23:=Tryz.isAgg219
 z23:=Tryz.sizeOf219
 v23:=Tryz.zeroValue219
 t26:=Tryz.underlying3
 a26:=Tryz.isAgg3
 z26:=Tryz.sizeOf3
 v26:=Tryz.zeroValue3
 t27:=Tryz.underlying221
 a27:=Tryz.isAgg221
 z27:=Tryz.sizeOf221
 v27:=Tryz.zeroValue221
 t28:=Tryz.underlying222
 a28:=Tryz.isAgg222
 z28:=Tryz.sizeOf222
 v28:=Tryz.zeroValue222
 t33:=Tryz.underlying53
 a33:=Tryz.isAgg53
 z33:=Tryz.sizeOf53
 v33:=Tryz.zeroValue53}
def Tryz.sortedI_ren:Go.Shelf.Ren:=⟨fun|6=>117|8=>197|9=>198|11=>260|13=>257|12=>261|23=>303|24=>202|14=>313|15=>314|16=>315|17=>316|18=>317|19=>318|20=>319|21=>320|22=>321|25=>354|26=>346|27=>347|28=>355|29=>356|30=>357|31=>374|n=>n,fun|26=>3|28=>222|24=>55|0=>0|3=>3|37=>73|48=>72|50=>35|4=>4|40=>420|39=>419|45=>43|5=>5|9=>9|51=>453|55=>97|57=>472|58=>318|33=>53|n=>n,fun|n=>n⟩
theorem Tryz.sortedI:Go.Proofs.SlLaysZI.n6 Tryz.prog Tryz.sortedI_ren:={
 mixed:=by kernel_rfl
 f6:=⟨Tryz.f117.name,by decide,Tryz.func117.trans (congrArg some (by kernel_rfl))⟩
 f8:=⟨Tryz.f197.name,by decide,Tryz.func197.trans (congrArg some (by kernel_rfl))⟩
 f11:=⟨Tryz.f260.name,by decide,Tryz.func260.trans (congrArg some (by kernel_rfl))⟩
 t0:=Tryz.underlying0
 a0:=Tryz.isAgg0
 z0:=Tryz.sizeOf0
 v0:=Tryz.zeroValue0
 t24:=Tryz.underlying55
 a24:=Tryz.isAgg55
 z24:=Tryz.sizeOf55
 v24:=Tryz.zeroValue55
 t26:=Tryz.underlying3
 a26:=Tryz.isAgg3
 z26:=Tryz.sizeOf3
 v26:=Tryz.zeroValue3
 t28:=Tryz.underlying222
 a28:=Tryz.isAgg222
 z28:=Tryz.sizeOf222
 v28:=Tryz.zeroValue222
 i26:=by kernel_rfl}
end Go.Proofs
