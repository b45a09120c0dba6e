/- What the row says of the program, by parts: 6. -/
import Derived.Test.YtjfdpdnmkoaolaaGreatDoorRows
import Derived.JoinedOf
import Derived.JoinedCond
set_option linter.all false
namespace Go.Proofs.YtjfdpdnmkoaolaaGreatDoor
open Go
set_option maxRecDepth 100000
theorem jf13 : (( Rows.planNilRow.maps == ( Tryz.f3.params.toList ++ (OpenSpec.ofChange Rows.planNilSpec).bare.plain.varTypes Tryz.prog ).any ( Tryz.prog.mapsRec ·))) = true := by kernel_rfl
theorem jf14 : (( Rows.planNilRow.ifaces == ( Tryz.f3.params.toList ++ (OpenSpec.ofChange Rows.planNilSpec).bare.plain.varTypes Tryz.prog ).any ( Tryz.prog.ifacesRec ·))) = true := by kernel_rfl
theorem jf15 : (( Rows.planNilRow.mapsOut == Tryz.prog.mapsAmong Tryz.f3.resultTypes.toList)) = true := by kernel_rfl
theorem jf16 : (( Rows.planNilRow.loops == ( Tryz.f3.params.toList ++ (OpenSpec.ofChange Rows.planNilSpec).bare.plain.varTypes Tryz.prog ).any ( Tryz.prog.loopsFrom ·))) = true := by kernel_rfl
theorem jf17 : (( Rows.planNilRow.wideKeys == ( Tryz.f3.params.toList ++ (OpenSpec.ofChange Rows.planNilSpec).bare.plain.varTypes Tryz.prog ++ Tryz.f3.resultTypes.toList).any ( Tryz.prog.wideKeysFrom ·))) = true := by kernel_rfl
theorem jf18 : ((OpenSpec.ofChange Rows.planNilSpec).bare.vars.all ( Tryz.prog.varReadable ·)) = true := by kernel_rfl
theorem jf19 : (Tryz.f3.resultTypes.all (fun t => Tryz.prog.readableRec t && decide (t < Tryz.prog.types.size))) = true := by kernel_rfl
theorem jf20 : (( Rows.planNilRow.ifacesOut == Tryz.f3.resultTypes.toList.any ( Tryz.prog.ifacesRec ·))) = true := by kernel_rfl
theorem jf21 : (( Rows.planNilRow.loopsOut == Tryz.f3.resultTypes.toList.any ( Tryz.prog.loopsFrom ·))) = true := by kernel_rfl
theorem jf22 : (( Rows.planNilRow.plainKeys == Tryz.prog.plainKeys)) = true := by kernel_rfl
theorem jf23 : (Rows.planNilRow.shortTexts.isNone) = true := by kernel_rfl
end Go.Proofs.YtjfdpdnmkoaolaaGreatDoor
