/-
  A library function laid at this program: the tables of numbers, and the bodies compared. Conditions: none. Written by the kit tools.
-/
import Derived.Shelf.SlLaysF
import Derived.Test.YtiblelgfkakmiaaGreatDoorProg
namespace Go.Proofs.YtiblelgfkakmiaaGreatDoor.Vc
open Go.Shelf
def lsf_ren : Go.Shelf.Ren := ⟨fun | 6 => 105 | 15 => 113 | 14 => 123 | 28 => 134 | 29 => 135 | 20 => 136 | 21 => 138 | 22 => 139 | 23 => 140 | 24 => 141 | 25 => 142 | 26 => 143 | 27 => 144 | 46 => 153 | 47 => 148 | 48 => 149 | 49 => 154 | 50 => 155 | 57 => 162 | n => n, fun | 22 => 24 | 24 => 28 | 25 => 77 | 3 => 3 | 39 => 70 | 0 => 0 | 53 => 133 | 55 => 43 | 4 => 4 | 46 => 127 | 45 => 126 | 50 => 90 | 5 => 5 | 9 => 9 | 66 => 142 | 70 => 146 | 76 => 155 | 77 => 156 | n => n, fun | n => n⟩
end Go.Proofs.YtiblelgfkakmiaaGreatDoor.Vc
