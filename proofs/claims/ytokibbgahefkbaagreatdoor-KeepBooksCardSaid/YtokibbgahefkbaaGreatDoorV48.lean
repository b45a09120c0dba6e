/- What the row says of the program, by parts: 9. -/
import Derived.Test.YtokibbgahefkbaaGreatDoorCards
import Derived.Test.YtokibbgahefkbaaGreatDoorTie
import Derived.JoinedOf
import Derived.JoinedCond
set_option linter.all false
namespace Go.Proofs.YtokibbgahefkbaaGreatDoor
open Go
set_option maxRecDepth 100000
theorem jwf:Rows.keepBooksRow.wfByText (OpenSpec.ofChange Rows.keepBooksSpec)=true:=by kernel_rfl
theorem jmain:Tryz.pinned.checked.prog.mainIs=some ((true, "c191dc5b0f04d7213836cf13cd0d773706452395a871330a13f7c182535a63c2").1,(true, "c191dc5b0f04d7213836cf13cd0d773706452395a871330a13f7c182535a63c2").2.toList):=by kernel_rfl
theorem jlooks:true=Tryz.pinned.checked.prog.looks [] :=by kernel_rfl
theorem jfn:Tryz.pinned.checked.prog.funcNamed "armarium/armariumlaw41.KeepBooks" =some 4:=by kernel_rfl
end Go.Proofs.YtokibbgahefkbaaGreatDoor
