/-
  The library sort at the element type int64, laid at this program: the table of numbers, and the bodies compared. Conditions: none. Written by the kit tools.
-/
import Derived.Shelf.SlLaysM
import Derived.Test.YtjpkmpihmilgoaaGreatProg
namespace Go.Proofs.YtjpkmpihmilgoaaGreat.Vc
open Go.Shelf
def lsort_ren : Go.Shelf.Ren := ⟨fun | 5 => 116 | 8 => 104 | 7 => 157 | 19 => 149 | 20 => 150 | 10 => 187 | 11 => 188 | 12 => 189 | 13 => 190 | 14 => 191 | 15 => 192 | 16 => 193 | 17 => 194 | 18 => 195 | 30 => 210 | 31 => 180 | 32 => 181 | 33 => 211 | 34 => 212 | 35 => 151 | 40 => 216 | n => n, fun | 23 => 34 | 25 => 2 | 3 => 3 | 32 => 86 | 22 => 34 | 0 => 0 | 44 => 150 | 46 => 48 | 4 => 4 | 36 => 143 | 35 => 142 | 41 => 147 | 5 => 5 | 9 => 9 | 53 => 167 | 57 => 171 | 63 => 187 | 64 => 188 | n => n, fun | n => n⟩
end Go.Proofs.YtjpkmpihmilgoaaGreat.Vc
