/- What the row says of the program, by parts: 7. -/
import Derived.Test.YtokibbgahefkbaaGreatDoorRows
import Derived.JoinedOf
import Derived.JoinedCond
set_option linter.all false
namespace Go.Proofs.YtokibbgahefkbaaGreatDoor
open Go
set_option maxRecDepth 100000
theorem jf24: (Tryz.prog.stopsHeard)=true:=by kernel_rfl
theorem jf25: (Tryz.prog.mayEnter)=true:=by kernel_rfl
theorem jf26: ((Rows.keepBooksRow.lifted==Tryz.prog.liftsFinal))=true:=by kernel_rfl
theorem jf27: ((Tryz.prog.make==some Rows.keepBooksRow.make))=true:=by kernel_rfl
theorem jf29: ((Rows.keepBooksRow.pinned==Rows.keepBooksRow.pinnedBy))=true:=by kernel_rfl
theorem jf30: ((Rows.keepBooksRow.veiled==(Tryz.f4.params.toList++ (OpenSpec.ofChange Rows.keepBooksSpec).bare.plain.varTypes Tryz.prog++Tryz.f4.resultTypes.toList).any (Tryz.prog.veiledRec ·)))=true:=by kernel_rfl
theorem jf31: (Rows.keepBooksRow.veiledFits Tryz.prog Tryz.f4.params.toList (Tryz.f4.params.toList++ (OpenSpec.ofChange Rows.keepBooksSpec).bare.plain.varTypes Tryz.prog++Tryz.f4.resultTypes.toList))=true:=by kernel_rfl
end Go.Proofs.YtokibbgahefkbaaGreatDoor
