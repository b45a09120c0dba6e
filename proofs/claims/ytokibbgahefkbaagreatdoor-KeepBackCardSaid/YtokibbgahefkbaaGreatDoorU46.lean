/- What the row says of the program, by parts: 7. -/
import Derived.Test.YtokibbgahefkbaaGreatDoorRows
import Derived.JoinedOf
import Derived.JoinedCond
set_option linter.all false
namespace Go.Proofs.YtokibbgahefkbaaGreatDoor
open Go
set_option maxRecDepth 100000
theorem jf24: (Tryz.prog.stopsHeard)=true:=by kernel_rfl
theorem jf25: (Tryz.prog.mayEnter)=true:=by kernel_rfl
theorem jf26: ((Rows.keepBackRow.lifted==Tryz.prog.liftsFinal))=true:=by kernel_rfl
theorem jf27: ((Tryz.prog.make==some Rows.keepBackRow.make))=true:=by kernel_rfl
theorem jf29: ((Rows.keepBackRow.pinned==Rows.keepBackRow.pinnedBy))=true:=by kernel_rfl
theorem jf30: ((Rows.keepBackRow.veiled==(Tryz.f5.params.toList++ (OpenSpec.ofChange Rows.keepBackSpec).bare.plain.varTypes Tryz.prog++Tryz.f5.resultTypes.toList).any (Tryz.prog.veiledRec ·)))=true:=by kernel_rfl
theorem jf31: (Rows.keepBackRow.veiledFits Tryz.prog Tryz.f5.params.toList (Tryz.f5.params.toList++ (OpenSpec.ofChange Rows.keepBackSpec).bare.plain.varTypes Tryz.prog++Tryz.f5.resultTypes.toList))=true:=by kernel_rfl
end Go.Proofs.YtokibbgahefkbaaGreatDoor
