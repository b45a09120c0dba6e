/- What the row says of the program, by parts: 5. -/
import Derived.Test.YtokibbgahefkbaaGreatDoorRows
import Derived.JoinedOf
import Derived.JoinedCond
set_option linter.all false
namespace Go.Proofs.YtokibbgahefkbaaGreatDoor
open Go
set_option maxRecDepth 100000
theorem jf12: ((Rows.keepBooksRow.named==Tryz.prog.varsNamed 4))=true:=by kernel_rfl
end Go.Proofs.YtokibbgahefkbaaGreatDoor
