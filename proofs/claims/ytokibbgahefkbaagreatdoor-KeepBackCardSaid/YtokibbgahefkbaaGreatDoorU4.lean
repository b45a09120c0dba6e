/- What the laws of package keep owe of their witness of the store. -/
import Derived.Test.YtokibbgahefkbaaGreatDoorU1
import Derived.Test.YtokibbgahefkbaaGreatDoorProg
set_option linter.all false
namespace Go.Proofs.YtokibbgahefkbaaGreatDoor.Fe
open Go.RowKit

/-- wakes answers true in every world above w -/
def Wak (w : World) : Prop := ∀ w', Below w.heap.size w w' → Calls Tryz.prog 6 #[] w' fun e w'' => e = .returned (.bool true) ∧ Below w'.heap.size w' w''
end Go.Proofs.YtokibbgahefkbaaGreatDoor.Fe
