/-
  A library function laid at this program: the tables of numbers, and the bodies compared. Conditions: none. Written by the kit tools.
-/
import Derived.Shelf.SlLaysF0
import Derived.Test.YtjpkmpihmilgoaaGreatProg
namespace Go.Proofs.YtjpkmpihmilgoaaGreat.Vc
open Go.Shelf
def lsf_ren : Go.Shelf.Ren := ⟨fun | 6 => 53 | 15 => 104 | 14 => 103 | 28 => 149 | 29 => 150 | 20 => 141 | 21 => 142 | 22 => 143 | 23 => 144 | 24 => 145 | 25 => 146 | 26 => 147 | 27 => 148 | 46 => 179 | 47 => 180 | 48 => 181 | 49 => 182 | 50 => 183 | 57 => 205 | n => n, fun | 22 => 26 | 24 => 32 | 25 => 81 | 3 => 3 | 39 => 86 | 0 => 0 | 53 => 150 | 55 => 48 | 4 => 4 | 46 => 143 | 45 => 142 | 50 => 147 | 5 => 5 | 9 => 9 | 66 => 167 | 70 => 171 | 76 => 187 | 77 => 188 | n => n, fun | n => n⟩
end Go.Proofs.YtjpkmpihmilgoaaGreat.Vc
