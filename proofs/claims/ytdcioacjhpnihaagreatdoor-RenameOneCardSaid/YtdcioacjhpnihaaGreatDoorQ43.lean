/- What the row says of the program, by parts: 2. -/
import Derived.Test.YtdcioacjhpnihaaGreatDoorRows
import Derived.JoinedOf
import Derived.JoinedCond
set_option linter.all false
namespace Go.Proofs.YtdcioacjhpnihaaGreatDoor
open Go
set_option maxRecDepth 100000
theorem jf9 : (( Rows.renameOneRow.inPlace == Tryz.prog.inPlace 3 )) = true := by kernel_rfl
end Go.Proofs.YtdcioacjhpnihaaGreatDoor
