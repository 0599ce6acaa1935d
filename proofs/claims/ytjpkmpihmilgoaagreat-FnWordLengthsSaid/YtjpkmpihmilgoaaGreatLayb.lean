/-
  The library functions Compact at int64 and Delete at lists, laid at this program: the tables of numbers, and the bodies compared. Conditions: none. Written by the kit tools.
-/
import Derived.Shelf.SlLaysE
import Derived.Test.YtjpkmpihmilgoaaGreatProg
namespace Go.Proofs.YtjpkmpihmilgoaaGreat.Vc
open Go.Shelf
def lcomp_ren : Go.Shelf.Ren := ⟨fun | 43 => 129 | n => n, fun | 22 => 34 | 23 => 2 | 3 => 3 | 4 => 4 | 0 => 0 | n => n, fun | n => n⟩
def ldel_ren : Go.Shelf.Ren := ⟨fun | 45 => 165 | n => n, fun | 22 => 30 | 23 => 34 | 3 => 3 | 4 => 4 | 0 => 0 | n => n, fun | n => n⟩
theorem ldel : Go.Proofs.SlLaysE.n45 Tryz.prog ldel_ren := {
  mixed := by kernel_rfl
  f45 := ⟨Tryz.f165.name, by decide, Tryz.func165.trans (congrArg some (by kernel_rfl))⟩
  t0 := Tryz.underlying0
  a0 := Tryz.isAgg0
  z0 := Tryz.sizeOf0
  v0 := Tryz.zeroValue0
  t3 := Tryz.underlying3
  a3 := Tryz.isAgg3
  z3 := Tryz.sizeOf3
  v3 := Tryz.zeroValue3
  t4 := Tryz.underlying4
  a4 := Tryz.isAgg4
  z4 := Tryz.sizeOf4
  v4 := Tryz.zeroValue4
  t22 := Tryz.underlying30
  a22 := Tryz.isAgg30
  z22 := Tryz.sizeOf30
  v22 := Tryz.zeroValue30
  a23 := Tryz.isAgg34
  z23 := Tryz.sizeOf34 }
end Go.Proofs.YtjpkmpihmilgoaaGreat.Vc
