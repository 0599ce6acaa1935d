/-
  The statement FnEulerianCardSaid is proved (the tied card): the law FnEulerian returns true, and its arguments read as they did. Conditions: none.
-/
import Derived.Test.YtiblelgfkakmiaaGreatDoorRows
import Derived.Test.YtiblelgfkakmiaaGreatDoorZe
import Derived.Test.YtiblelgfkakmiaaGreatDoorCards
import Derived.Test.YtiblelgfkakmiaaGreatDoorTie
import Derived.LaidLaws
import Derived.Lay
import Derived.LaidMore
import Derived.MakeChecks
import Derived.Stop.LaidErr
import Derived.Stop.Joined
import Derived.Lib.LaidTab
import Derived.SevenTiedAt
namespace Go.Proofs.YtiblelgfkakmiaaGreatDoor.FnEulerianCard
open Go.ChangeShapes Go.WideShapes Go.ChangeAt Go.RowKit Go.Proofs.YtiblelgfkakmiaaGreatDoor.Vc

end Go.Proofs.YtiblelgfkakmiaaGreatDoor.FnEulerianCard
#print axioms Go.Proofs.YtiblelgfkakmiaaGreatDoor.FnEulerianCard.proved
