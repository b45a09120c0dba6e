/- What the row says of the program, by parts: 6. What the row says of the program, by parts: 7. -/
import Derived.Test.YtdcioacjhpnihaaGreatDoorRows
import Derived.JoinedOf
import Derived.JoinedCond
set_option linter.all false
namespace Go.Proofs.YtdcioacjhpnihaaGreatDoor
open Go
set_option maxRecDepth 100000
theorem jf13 : (( Rows.renameOneRow.maps == ( Tryz.f3.params.toList ++ (OpenSpec.ofChange Rows.renameOneSpec).bare.plain.varTypes Tryz.prog ).any ( Tryz.prog.mapsRec ·))) = true := by kernel_rfl
theorem jf14 : (( Rows.renameOneRow.ifaces == ( Tryz.f3.params.toList ++ (OpenSpec.ofChange Rows.renameOneSpec).bare.plain.varTypes Tryz.prog ).any ( Tryz.prog.ifacesRec ·))) = true := by kernel_rfl
theorem jf15 : (( Rows.renameOneRow.mapsOut == Tryz.prog.mapsAmong Tryz.f3.resultTypes.toList)) = true := by kernel_rfl
theorem jf16 : (( Rows.renameOneRow.loops == ( Tryz.f3.params.toList ++ (OpenSpec.ofChange Rows.renameOneSpec).bare.plain.varTypes Tryz.prog ).any ( Tryz.prog.loopsFrom ·))) = true := by kernel_rfl
theorem jf17 : (( Rows.renameOneRow.wideKeys == ( Tryz.f3.params.toList ++ (OpenSpec.ofChange Rows.renameOneSpec).bare.plain.varTypes Tryz.prog ++ Tryz.f3.resultTypes.toList).any ( Tryz.prog.wideKeysFrom ·))) = true := by kernel_rfl
theorem jf18 : ((OpenSpec.ofChange Rows.renameOneSpec).bare.vars.all ( Tryz.prog.varReadable ·)) = true := by kernel_rfl
theorem jf19 : (Tryz.f3.resultTypes.all (fun t => Tryz.prog.readableRec t && decide (t < Tryz.prog.types.size))) = true := by kernel_rfl
theorem jf20 : (( Rows.renameOneRow.ifacesOut == Tryz.f3.resultTypes.toList.any ( Tryz.prog.ifacesRec ·))) = true := by kernel_rfl
theorem jf21 : (( Rows.renameOneRow.loopsOut == Tryz.f3.resultTypes.toList.any ( Tryz.prog.loopsFrom ·))) = true := by kernel_rfl
theorem jf22 : (( Rows.renameOneRow.plainKeys == Tryz.prog.plainKeys)) = true := by kernel_rfl
theorem jf23 : (Rows.renameOneRow.shortTexts.isNone) = true := by kernel_rfl
end Go.Proofs.YtdcioacjhpnihaaGreatDoor
namespace Go.Proofs.YtdcioacjhpnihaaGreatDoor
open Go
set_option maxRecDepth 100000
theorem jf24 : (Tryz.prog.stopsHeard) = true := by kernel_rfl
theorem jf25 : (Tryz.prog.mayEnter) = true := by kernel_rfl
theorem jf26 : (( Rows.renameOneRow.lifted == Tryz.prog.liftsFinal)) = true := by kernel_rfl
theorem jf27 : (( Tryz.prog.make == some Rows.renameOneRow.make)) = true := by kernel_rfl
theorem jf29 : (( Rows.renameOneRow.pinned == Rows.renameOneRow.pinnedBy)) = true := by kernel_rfl
theorem jf30 : (( Rows.renameOneRow.veiled == ( Tryz.f3.params.toList ++ (OpenSpec.ofChange Rows.renameOneSpec).bare.plain.varTypes Tryz.prog ++ Tryz.f3.resultTypes.toList).any ( Tryz.prog.veiledRec ·))) = true := by kernel_rfl
theorem jf31 : (Rows.renameOneRow.veiledFits Tryz.prog Tryz.f3.params.toList ( Tryz.f3.params.toList ++ (OpenSpec.ofChange Rows.renameOneSpec).bare.plain.varTypes Tryz.prog ++ Tryz.f3.resultTypes.toList)) = true := by kernel_rfl
end Go.Proofs.YtdcioacjhpnihaaGreatDoor
