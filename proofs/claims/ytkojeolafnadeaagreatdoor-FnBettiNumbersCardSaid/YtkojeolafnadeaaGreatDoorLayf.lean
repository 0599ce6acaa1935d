/-
  A library function laid at this program: the tables of numbers, and the bodies compared. Conditions: none. Written by the kit tools.
-/
import Derived.Shelf.SlLaysF
import Derived.Test.YtkojeolafnadeaaGreatDoorProg
namespace Go.Proofs.YtkojeolafnadeaaGreatDoor.Vc
open Go.Shelf
end Go.Proofs.YtkojeolafnadeaaGreatDoor.Vc
