/-
  The library functions Compact at int64 and Delete at lists, laid at this program: the tables of numbers, and the bodies compared. Conditions: none. Written by the kit tools.
-/
import Derived.Shelf.SlLaysE
import Derived.Test.YtimbpgackifflaaGreatDoorProg
namespace Go.Proofs.YtimbpgackifflaaGreatDoor.Vc
open Go.Shelf
def ano:Go.Shelf.Ren:=⟨λ|43=>82|n=>n,λ|22=>27|23=>2|3=>3|4=>4|0=>0|n=>n,λ|n=>n⟩
theorem ann:Go.Proofs.SlLaysE.n43 Tryz.prog ano:={
 mixed:=by kernel_rfl
 f43:=⟨Tryz.f82.name,by decide,Tryz.func82.trans (congrArg some (by kernel_rfl))⟩
 t0:=Tryz.underlying0
 a0:=Tryz.isAgg0
 z0:=Tryz.sizeOf0
 v0:=Tryz.zeroValue0
 t3:=Tryz.underlying3
 a3:=Tryz.isAgg3
 z3:=Tryz.sizeOf3
 v3:=Tryz.zeroValue3
 t4:=Tryz.underlying4
 a4:=Tryz.isAgg4
 z4:=Tryz.sizeOf4
 v4:=Tryz.zeroValue4
 t22:=Tryz.underlying27
 a22:=Tryz.isAgg27
 z22:=Tryz.sizeOf27
 v22:=Tryz.zeroValue27
 a23:=Tryz.isAgg2
 z23:=Tryz.sizeOf2 }
def anq:Go.Shelf.Ren:=⟨λ|45=>190|n=>n,λ|22=>28|23=>27|3=>3|4=>4|0=>0|n=>n,λ|n=>n⟩
theorem anp:Go.Proofs.SlLaysE.n45 Tryz.prog anq:={
 mixed:=by kernel_rfl
 f45:=⟨Tryz.f190.name,by decide,Tryz.func190.trans (congrArg some (by kernel_rfl))⟩
 t0:=Tryz.underlying0
 a0:=Tryz.isAgg0
 z0:=Tryz.sizeOf0
 v0:=Tryz.zeroValue0
 t3:=Tryz.underlying3
 a3:=Tryz.isAgg3
 z3:=Tryz.sizeOf3
 v3:=Tryz.zeroValue3
 t4:=Tryz.underlying4
 a4:=Tryz.isAgg4
 z4:=Tryz.sizeOf4
 v4:=Tryz.zeroValue4
 t22:=Tryz.underlying28
 a22:=Tryz.isAgg28
 z22:=Tryz.sizeOf28
 v22:=Tryz.zeroValue28
 a23:=Tryz.isAgg27
 z23:=Tryz.sizeOf27 }
end Go.Proofs.YtimbpgackifflaaGreatDoor.Vc
