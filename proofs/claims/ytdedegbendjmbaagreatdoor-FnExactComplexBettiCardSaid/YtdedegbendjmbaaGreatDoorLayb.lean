/-
  The library functions Compact at int64 and Delete at lists, laid at this program: the tables of numbers, and the bodies compared. Conditions: none. Written by the kit tools.
-/
import Derived.Shelf.SlLaysE
import Derived.Test.YtdedegbendjmbaaGreatDoorProg
namespace Go.Proofs.YtdedegbendjmbaaGreatDoor.Vc
open Go.Shelf
def lcomp_ren : Go.Shelf.Ren := ⟨fun | 43 => 128 | n => n, fun | 22 => 25 | 23 => 2 | 3 => 3 | 4 => 4 | 0 => 0 | n => n, fun | n => n⟩
end Go.Proofs.YtdedegbendjmbaaGreatDoor.Vc
