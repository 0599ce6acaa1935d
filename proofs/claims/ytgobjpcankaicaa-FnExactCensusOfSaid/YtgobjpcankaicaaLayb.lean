/-
  The library functions Compact at int64 and Delete at lists, laid at this program: the tables of numbers, and the bodies compared. Conditions: none. Written by the kit tools.
-/
import Derived.Shelf.SlLaysE
import Derived.Test.YtgobjpcankaicaaProg
namespace Go.Proofs.Ytgobjpcankaicaa.Vc
open Go.Shelf
def lcomp_ren : Go.Shelf.Ren := ⟨fun | 43 => 148 | n => n, fun | 22 => 33 | 23 => 2 | 3 => 3 | 4 => 4 | 0 => 0 | n => n, fun | n => n⟩
theorem lcomp : Go.Proofs.SlLaysE.n43 Try.prog lcomp_ren := {
  mixed := by kernel_rfl
  f43 := ⟨Try.f148.name, by decide, Try.func148.trans (congrArg some (by kernel_rfl))⟩
  t0 := Try.underlying0
  a0 := Try.isAgg0
  z0 := Try.sizeOf0
  v0 := Try.zeroValue0
  t3 := Try.underlying3
  a3 := Try.isAgg3
  z3 := Try.sizeOf3
  v3 := Try.zeroValue3
  t4 := Try.underlying4
  a4 := Try.isAgg4
  z4 := Try.sizeOf4
  v4 := Try.zeroValue4
  t22 := Try.underlying33
  a22 := Try.isAgg33
  z22 := Try.sizeOf33
  v22 := Try.zeroValue33
  a23 := Try.isAgg2
  z23 := Try.sizeOf2 }
def ldel_ren : Go.Shelf.Ren := ⟨fun | 45 => 203 | n => n, fun | 22 => 22 | 23 => 33 | 3 => 3 | 4 => 4 | 0 => 0 | n => n, fun | n => n⟩
theorem ldel : Go.Proofs.SlLaysE.n45 Try.prog ldel_ren := {
  mixed := by kernel_rfl
  f45 := ⟨Try.f203.name, by decide, Try.func203.trans (congrArg some (by kernel_rfl))⟩
  t0 := Try.underlying0
  a0 := Try.isAgg0
  z0 := Try.sizeOf0
  v0 := Try.zeroValue0
  t3 := Try.underlying3
  a3 := Try.isAgg3
  z3 := Try.sizeOf3
  v3 := Try.zeroValue3
  t4 := Try.underlying4
  a4 := Try.isAgg4
  z4 := Try.sizeOf4
  v4 := Try.zeroValue4
  t22 := Try.underlying22
  a22 := Try.isAgg22
  z22 := Try.sizeOf22
  v22 := Try.zeroValue22
  a23 := Try.isAgg33
  z23 := Try.sizeOf33 }
end Go.Proofs.Ytgobjpcankaicaa.Vc
