/-
  The library functions Compact at int64 and Delete at lists, laid at this program: the tables of numbers, and the bodies compared. Conditions: none. Written by the kit tools.
-/
import Derived.Shelf.SlLaysE
import Derived.Test.YtiblelgfkakmiaaGreatDoorProg
namespace Go.Proofs.YtiblelgfkakmiaaGreatDoor.Vc
open Go.Shelf
def lcomp_ren : Go.Shelf.Ren := ⟨fun | 43 => 80 | n => n, fun | 22 => 28 | 23 => 2 | 3 => 3 | 4 => 4 | 0 => 0 | n => n, fun | n => n⟩
end Go.Proofs.YtiblelgfkakmiaaGreatDoor.Vc
