/-
  The rows of the program's tables, as instances of the calculus. Conditions: none. Printed by a program.
-/
import Derived.Test.YtiblelgfkakmiaaGreatDoorZa
import Derived.Test.YtiblelgfkakmiaaGreatDoorProg
import Derived.KernelRfl
namespace Go.Proofs.YtiblelgfkakmiaaGreatDoor.Vc
end Go.Proofs.YtiblelgfkakmiaaGreatDoor.Vc
