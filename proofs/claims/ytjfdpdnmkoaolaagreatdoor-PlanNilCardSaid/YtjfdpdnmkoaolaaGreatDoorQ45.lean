/- What the row says of the program, by parts: 9. -/
import Derived.Test.YtjfdpdnmkoaolaaGreatDoorCards
import Derived.Test.YtjfdpdnmkoaolaaGreatDoorTie
import Derived.JoinedOf
import Derived.JoinedCond
set_option linter.all false
namespace Go.Proofs.YtjfdpdnmkoaolaaGreatDoor
open Go
set_option maxRecDepth 100000
theorem jwf : Rows.planNilRow.wfByText (OpenSpec.ofChange Rows.planNilSpec) = true := by kernel_rfl
theorem jmain : Tryz.pinned.checked.prog.mainIs = some ((true, "2d5d9784928cecedd8dc922be2f004dc539869966b335099216888901234ee89").1, (true, "2d5d9784928cecedd8dc922be2f004dc539869966b335099216888901234ee89").2.toList) := by kernel_rfl
theorem jlooks : true = Tryz.pinned.checked.prog.looks [] := by kernel_rfl
theorem jfn : Tryz.pinned.checked.prog.funcNamed "armarium/armariumlaw47.PlanNil" = some 3 := by kernel_rfl
end Go.Proofs.YtjfdpdnmkoaolaaGreatDoor
