/- What the row says of the program, by parts: 6. -/
import Derived.Test.YtokibbgahefkbaaGreatDoorRows
import Derived.JoinedOf
import Derived.JoinedCond
set_option linter.all false
namespace Go.Proofs.YtokibbgahefkbaaGreatDoor
open Go
set_option maxRecDepth 100000
theorem jf13: ((Rows.keepBooksRow.maps==(Tryz.f4.params.toList++ (OpenSpec.ofChange Rows.keepBooksSpec).bare.plain.varTypes Tryz.prog).any (Tryz.prog.mapsRec ·)))=true:=by kernel_rfl
theorem jf14: ((Rows.keepBooksRow.ifaces==(Tryz.f4.params.toList++ (OpenSpec.ofChange Rows.keepBooksSpec).bare.plain.varTypes Tryz.prog).any (Tryz.prog.ifacesRec ·)))=true:=by kernel_rfl
theorem jf15: ((Rows.keepBooksRow.mapsOut==Tryz.prog.mapsAmong Tryz.f4.resultTypes.toList))=true:=by kernel_rfl
theorem jf16: ((Rows.keepBooksRow.loops==(Tryz.f4.params.toList++ (OpenSpec.ofChange Rows.keepBooksSpec).bare.plain.varTypes Tryz.prog).any (Tryz.prog.loopsFrom ·)))=true:=by kernel_rfl
theorem jf17: ((Rows.keepBooksRow.wideKeys==(Tryz.f4.params.toList++ (OpenSpec.ofChange Rows.keepBooksSpec).bare.plain.varTypes Tryz.prog++Tryz.f4.resultTypes.toList).any (Tryz.prog.wideKeysFrom ·)))=true:=by kernel_rfl
theorem jf18: ((OpenSpec.ofChange Rows.keepBooksSpec).bare.vars.all (Tryz.prog.varReadable ·))=true:=by kernel_rfl
theorem jf19: (Tryz.f4.resultTypes.all (fun t=>Tryz.prog.readableRec t&&decide (t<Tryz.prog.types.size)))=true:=by kernel_rfl
theorem jf20: ((Rows.keepBooksRow.ifacesOut==Tryz.f4.resultTypes.toList.any (Tryz.prog.ifacesRec ·)))=true:=by kernel_rfl
theorem jf21: ((Rows.keepBooksRow.loopsOut==Tryz.f4.resultTypes.toList.any (Tryz.prog.loopsFrom ·)))=true:=by kernel_rfl
theorem jf22: ((Rows.keepBooksRow.plainKeys==Tryz.prog.plainKeys))=true:=by kernel_rfl
theorem jf23: (Rows.keepBooksRow.shortTexts.isNone)=true:=by kernel_rfl
end Go.Proofs.YtokibbgahefkbaaGreatDoor
