/- What the row says of the program, by parts: 3. -/
import Derived.Test.YtdcioacjhpnihaaGreatDoorRows
import Derived.JoinedOf
import Derived.JoinedCond
set_option linter.all false
namespace Go.Proofs.YtdcioacjhpnihaaGreatDoor
open Go
set_option maxRecDepth 100000
theorem jf10 : (( Rows.renameOneRow.unfollowed == Tryz.prog.unfollowed 3 )) = true := by kernel_rfl
end Go.Proofs.YtdcioacjhpnihaaGreatDoor
