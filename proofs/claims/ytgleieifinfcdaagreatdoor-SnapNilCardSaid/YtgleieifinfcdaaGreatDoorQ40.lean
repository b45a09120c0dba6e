/- What the row says of the program, by parts: 9. -/
import Derived.Test.YtgleieifinfcdaaGreatDoorCards
import Derived.Test.YtgleieifinfcdaaGreatDoorTie
import Derived.JoinedOf
import Derived.JoinedCond
set_option linter.all false
namespace Go.Proofs.YtgleieifinfcdaaGreatDoor
open Go
set_option maxRecDepth 100000
theorem jwf : Rows.snapNilRow.wfByText (OpenSpec.ofChange Rows.snapNilSpec) = true := by kernel_rfl
theorem jmain : Tryz.pinned.checked.prog.mainIs = some ((true, "89b478f537234d30a0c6580eff52a4e58718366a8784d36d8d1a242722253cbb").1, (true, "89b478f537234d30a0c6580eff52a4e58718366a8784d36d8d1a242722253cbb").2.toList) := by kernel_rfl
theorem jlooks : true = Tryz.pinned.checked.prog.looks [] := by kernel_rfl
theorem jfn : Tryz.pinned.checked.prog.funcNamed "armarium/armariumlaw22.SnapNil" = some 3 := by kernel_rfl
end Go.Proofs.YtgleieifinfcdaaGreatDoor
