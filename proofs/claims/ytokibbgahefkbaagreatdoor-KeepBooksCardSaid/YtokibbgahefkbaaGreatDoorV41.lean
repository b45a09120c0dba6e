/- What the row says of the program, by parts: 1. -/
import Derived.Test.YtokibbgahefkbaaGreatDoorRows
import Derived.JoinedOf
import Derived.JoinedCond
set_option linter.all false
namespace Go.Proofs.YtokibbgahefkbaaGreatDoor
open Go
set_option maxRecDepth 100000
theorem jf0: (Rows.keepBooksRow.wf (OpenSpec.ofChange (OpenSpec.ofChange Rows.keepBooksSpec).bare))=true:=by kernel_rfl
theorem jf1: (laidOutB Tryz.prog)=true:=by kernel_rfl
theorem jf2: (mapsRowed Tryz.prog)=true:=by kernel_rfl
theorem jf3: (Tryz.f4.params.all (Tryz.prog.readableRec ·))=true:=by kernel_rfl
theorem jf4: (namedTie Tryz.prog Rows.keepBooksRow.named (OpenSpec.ofChange Rows.keepBooksSpec).bare.vars)=true:=by kernel_rfl
theorem jf5: ((Rows.keepBooksRow.stops== []))=true:=by kernel_rfl
theorem jf6: ((Tryz.prog.stops== []))=true:=by kernel_rfl
theorem jf7: ((Rows.keepBooksRow.knobs== []))=true:=by kernel_rfl
theorem jf8: ((Tryz.prog.stopKnobs== []))=true:=by kernel_rfl
end Go.Proofs.YtokibbgahefkbaaGreatDoor
