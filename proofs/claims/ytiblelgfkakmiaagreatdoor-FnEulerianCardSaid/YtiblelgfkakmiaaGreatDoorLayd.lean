/-
  A library function laid at this program: the tables of numbers, and the bodies compared. Conditions: none. Written by the kit tools.
-/
import Derived.Shelf.LaysM
import Derived.Test.YtiblelgfkakmiaaGreatDoorProg
namespace Go.Proofs.YtiblelgfkakmiaaGreatDoor.Vc
open Go.Shelf
def lai_ren : Go.Shelf.Ren := ⟨fun | 176 => 111 | 249 => 125 | 288 => 146 | 283 => 156 | 284 => 157 | 285 => 158 | 286 => 159 | 129 => 135 | 317 => 163 | 318 => 164 | 319 => 165 | 320 => 166 | 337 => 167 | 338 => 168 | n => n, fun | 37 => 22 | 2 => 2 | 3 => 3 | 53 => 43 | 4 => 4 | 9 => 9 | 171 => 151 | 0 => 0 | 173 => 153 | 212 => 161 | 51 => 133 | 5 => 5 | 20 => 20 | 213 => 162 | 46 => 70 | 232 => 164 | 233 => 165 | n => n, fun | 17 => 0 | 18 => 1 | 19 => 2 | n => n⟩
end Go.Proofs.YtiblelgfkakmiaaGreatDoor.Vc
