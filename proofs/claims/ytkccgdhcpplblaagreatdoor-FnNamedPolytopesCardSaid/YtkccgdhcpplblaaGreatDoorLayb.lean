/-
  The library functions Compact at int64 and Delete at lists, laid at this program: the tables of numbers, and the bodies compared. Conditions: none. Written by the kit tools.
-/
import Derived.Shelf.SlLaysE
import Derived.Test.YtkccgdhcpplblaaGreatDoorProg
namespace Go.Proofs.YtkccgdhcpplblaaGreatDoor.Vc
open Go.Shelf
def aiH:Go.Shelf.Ren:=⟨fun | 43=>160 | n=>n,fun | 22=>34 | 23=>2 | 3=>3 | 4=>4 | 0=>0 | n=>n,fun | n=>n⟩
theorem aiG:Go.Proofs.SlLaysE.n43 Tryz.prog aiH:= {
 mixed:=by kernel_rfl
 f43:=⟨Tryz.f160.name,by decide,Tryz.func160.trans (congrArg some (by kernel_rfl))⟩
 t0:=Tryz.underlying0
 a0:=Tryz.isAgg0
 z0:=Tryz.sizeOf0
 v0:=Tryz.zeroValue0
 t3:=Tryz.underlying3
 a3:=Tryz.isAgg3
 z3:=Tryz.sizeOf3
 v3:=Tryz.zeroValue3
 t4:=Tryz.underlying4
 a4:=Tryz.isAgg4
 z4:=Tryz.sizeOf4
 v4:=Tryz.zeroValue4
 t22:=Tryz.underlying34
 a22:=Tryz.isAgg34
 z22:=Tryz.sizeOf34
 v22:=Tryz.zeroValue34
 a23:=Tryz.isAgg2
 z23:=Tryz.sizeOf2 }
def aiK:Go.Shelf.Ren:=⟨fun | 45=>245 | n=>n,fun | 22=>22 | 23=>34 | 3=>3 | 4=>4 | 0=>0 | n=>n,fun | n=>n⟩
theorem aiJ:Go.Proofs.SlLaysE.n45 Tryz.prog aiK:= {
 mixed:=by kernel_rfl
 f45:=⟨Tryz.f245.name,by decide,Tryz.func245.trans (congrArg some (by kernel_rfl))⟩
 t0:=Tryz.underlying0
 a0:=Tryz.isAgg0
 z0:=Tryz.sizeOf0
 v0:=Tryz.zeroValue0
 t3:=Tryz.underlying3
 a3:=Tryz.isAgg3
 z3:=Tryz.sizeOf3
 v3:=Tryz.zeroValue3
 t4:=Tryz.underlying4
 a4:=Tryz.isAgg4
 z4:=Tryz.sizeOf4
 v4:=Tryz.zeroValue4
 t22:=Tryz.underlying22
 a22:=Tryz.isAgg22
 z22:=Tryz.sizeOf22
 v22:=Tryz.zeroValue22
 a23:=Tryz.isAgg34
 z23:=Tryz.sizeOf34 }
end Go.Proofs.YtkccgdhcpplblaaGreatDoor.Vc
