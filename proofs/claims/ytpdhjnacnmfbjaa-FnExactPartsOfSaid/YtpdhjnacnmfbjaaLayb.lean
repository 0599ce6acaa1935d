/-
  The library functions Compact at int64 and Delete at lists, laid at this program: the tables of numbers, and the bodies compared. Conditions: none. Written by the kit tools.
-/
import Derived.Shelf.SlLaysE
import Derived.Test.YtpdhjnacnmfbjaaProg
namespace Go.Proofs.Ytpdhjnacnmfbjaa.Vc
open Go.Shelf
def lcomp_ren : Go.Shelf.Ren := ⟨fun | 43 => 110 | n => n, fun | 22 => 39 | 23 => 2 | 3 => 3 | 4 => 4 | 0 => 0 | n => n, fun | n => n⟩
theorem lcomp : Go.Proofs.SlLaysE.n43 Try.prog lcomp_ren := {
  mixed := by kernel_rfl
  f43 := ⟨Try.f110.name, by decide, Try.func110.trans (congrArg some (by kernel_rfl))⟩
  t0 := Try.underlying0
  a0 := Try.isAgg0
  z0 := Try.sizeOf0
  v0 := Try.zeroValue0
  t3 := Try.underlying3
  a3 := Try.isAgg3
  z3 := Try.sizeOf3
  v3 := Try.zeroValue3
  t4 := Try.underlying4
  a4 := Try.isAgg4
  z4 := Try.sizeOf4
  v4 := Try.zeroValue4
  t22 := Try.underlying39
  a22 := Try.isAgg39
  z22 := Try.sizeOf39
  v22 := Try.zeroValue39
  a23 := Try.isAgg2
  z23 := Try.sizeOf2 }
def ldel_ren : Go.Shelf.Ren := ⟨fun | 45 => 143 | n => n, fun | 22 => 25 | 23 => 39 | 3 => 3 | 4 => 4 | 0 => 0 | n => n, fun | n => n⟩
theorem ldel : Go.Proofs.SlLaysE.n45 Try.prog ldel_ren := {
  mixed := by kernel_rfl
  f45 := ⟨Try.f143.name, by decide, Try.func143.trans (congrArg some (by kernel_rfl))⟩
  t0 := Try.underlying0
  a0 := Try.isAgg0
  z0 := Try.sizeOf0
  v0 := Try.zeroValue0
  t3 := Try.underlying3
  a3 := Try.isAgg3
  z3 := Try.sizeOf3
  v3 := Try.zeroValue3
  t4 := Try.underlying4
  a4 := Try.isAgg4
  z4 := Try.sizeOf4
  v4 := Try.zeroValue4
  t22 := Try.underlying25
  a22 := Try.isAgg25
  z22 := Try.sizeOf25
  v22 := Try.zeroValue25
  a23 := Try.isAgg39
  z23 := Try.sizeOf39 }
end Go.Proofs.Ytpdhjnacnmfbjaa.Vc
