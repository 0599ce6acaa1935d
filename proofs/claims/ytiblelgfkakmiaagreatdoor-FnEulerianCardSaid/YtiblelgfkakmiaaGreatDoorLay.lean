/-
  The library sort at the element type int64, laid at this program: the table of numbers, and the bodies compared. Conditions: none. Written by the kit tools.
-/
import Derived.Shelf.SlLaysM
import Derived.Test.YtiblelgfkakmiaaGreatDoorProg
namespace Go.Proofs.YtiblelgfkakmiaaGreatDoor.Vc
open Go.Shelf
def lsort_ren : Go.Shelf.Ren := ⟨fun | 5 => 79 | 8 => 113 | 7 => 112 | 19 => 134 | 20 => 135 | 10 => 126 | 11 => 127 | 12 => 128 | 13 => 129 | 14 => 130 | 15 => 131 | 16 => 114 | 17 => 132 | 18 => 133 | 30 => 147 | 31 => 148 | 32 => 149 | 33 => 150 | 34 => 151 | 35 => 121 | 40 => 160 | n => n, fun | 23 => 28 | 25 => 2 | 3 => 3 | 32 => 70 | 22 => 28 | 0 => 0 | 44 => 133 | 46 => 43 | 4 => 4 | 36 => 127 | 35 => 126 | 41 => 90 | 5 => 5 | 9 => 9 | 53 => 142 | 57 => 146 | 63 => 155 | 64 => 156 | n => n, fun | n => n⟩
end Go.Proofs.YtiblelgfkakmiaaGreatDoor.Vc
