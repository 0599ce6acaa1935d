/-
  A library function laid at this program: the tables of numbers, and the bodies compared. Conditions: none. Written by the kit tools.
-/
import Derived.Shelf.SlLaysF0
import Derived.Test.YtagdamiiececaaaGreatDoorProg
namespace Go.Proofs.YtagdamiiececaaaGreatDoor.Vc
open Go.Shelf
end Go.Proofs.YtagdamiiececaaaGreatDoor.Vc
