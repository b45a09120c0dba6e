/- What the row says of the program, by parts: 6. -/
import Derived.Test.YtokibbgahefkbaaGreatDoorRows
import Derived.JoinedOf
import Derived.JoinedCond
set_option linter.all false
namespace Go.Proofs.YtokibbgahefkbaaGreatDoor
open Go
set_option maxRecDepth 100000
theorem jf13: ((Rows.keepBackRow.maps==(Tryz.f5.params.toList++ (OpenSpec.ofChange Rows.keepBackSpec).bare.plain.varTypes Tryz.prog).any (Tryz.prog.mapsRec ·)))=true:=by kernel_rfl
theorem jf14: ((Rows.keepBackRow.ifaces==(Tryz.f5.params.toList++ (OpenSpec.ofChange Rows.keepBackSpec).bare.plain.varTypes Tryz.prog).any (Tryz.prog.ifacesRec ·)))=true:=by kernel_rfl
theorem jf15: ((Rows.keepBackRow.mapsOut==Tryz.prog.mapsAmong Tryz.f5.resultTypes.toList))=true:=by kernel_rfl
theorem jf16: ((Rows.keepBackRow.loops==(Tryz.f5.params.toList++ (OpenSpec.ofChange Rows.keepBackSpec).bare.plain.varTypes Tryz.prog).any (Tryz.prog.loopsFrom ·)))=true:=by kernel_rfl
theorem jf17: ((Rows.keepBackRow.wideKeys==(Tryz.f5.params.toList++ (OpenSpec.ofChange Rows.keepBackSpec).bare.plain.varTypes Tryz.prog++Tryz.f5.resultTypes.toList).any (Tryz.prog.wideKeysFrom ·)))=true:=by kernel_rfl
theorem jf18: ((OpenSpec.ofChange Rows.keepBackSpec).bare.vars.all (Tryz.prog.varReadable ·))=true:=by kernel_rfl
theorem jf19: (Tryz.f5.resultTypes.all (fun t=>Tryz.prog.readableRec t&&decide (t<Tryz.prog.types.size)))=true:=by kernel_rfl
theorem jf20: ((Rows.keepBackRow.ifacesOut==Tryz.f5.resultTypes.toList.any (Tryz.prog.ifacesRec ·)))=true:=by kernel_rfl
theorem jf21: ((Rows.keepBackRow.loopsOut==Tryz.f5.resultTypes.toList.any (Tryz.prog.loopsFrom ·)))=true:=by kernel_rfl
theorem jf22: ((Rows.keepBackRow.plainKeys==Tryz.prog.plainKeys))=true:=by kernel_rfl
theorem jf23: (Rows.keepBackRow.shortTexts.isNone)=true:=by kernel_rfl
end Go.Proofs.YtokibbgahefkbaaGreatDoor
