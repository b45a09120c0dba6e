/- What the row says of the program, by parts: 6. -/
import Derived.Test.YtiiifhddpdhagaaGreatDoorRows
import Derived.JoinedOf
import Derived.JoinedCond
set_option linter.all false
namespace Go.Proofs.YtiiifhddpdhagaaGreatDoor
open Go
set_option maxRecDepth 100000
theorem jf13 : (( Rows.vaultNilRow.maps == ( Tryz.f3.params.toList ++ (OpenSpec.ofChange Rows.vaultNilSpec).bare.plain.varTypes Tryz.prog ).any ( Tryz.prog.mapsRec ·))) = true := by kernel_rfl
theorem jf14 : (( Rows.vaultNilRow.ifaces == ( Tryz.f3.params.toList ++ (OpenSpec.ofChange Rows.vaultNilSpec).bare.plain.varTypes Tryz.prog ).any ( Tryz.prog.ifacesRec ·))) = true := by kernel_rfl
theorem jf15 : (( Rows.vaultNilRow.mapsOut == Tryz.prog.mapsAmong Tryz.f3.resultTypes.toList)) = true := by kernel_rfl
theorem jf16 : (( Rows.vaultNilRow.loops == ( Tryz.f3.params.toList ++ (OpenSpec.ofChange Rows.vaultNilSpec).bare.plain.varTypes Tryz.prog ).any ( Tryz.prog.loopsFrom ·))) = true := by kernel_rfl
theorem jf17 : (( Rows.vaultNilRow.wideKeys == ( Tryz.f3.params.toList ++ (OpenSpec.ofChange Rows.vaultNilSpec).bare.plain.varTypes Tryz.prog ++ Tryz.f3.resultTypes.toList).any ( Tryz.prog.wideKeysFrom ·))) = true := by kernel_rfl
theorem jf18 : ((OpenSpec.ofChange Rows.vaultNilSpec).bare.vars.all ( Tryz.prog.varReadable ·)) = true := by kernel_rfl
theorem jf19 : (Tryz.f3.resultTypes.all (fun t => Tryz.prog.readableRec t && decide (t < Tryz.prog.types.size))) = true := by kernel_rfl
theorem jf20 : (( Rows.vaultNilRow.ifacesOut == Tryz.f3.resultTypes.toList.any ( Tryz.prog.ifacesRec ·))) = true := by kernel_rfl
theorem jf21 : (( Rows.vaultNilRow.loopsOut == Tryz.f3.resultTypes.toList.any ( Tryz.prog.loopsFrom ·))) = true := by kernel_rfl
theorem jf22 : (( Rows.vaultNilRow.plainKeys == Tryz.prog.plainKeys)) = true := by kernel_rfl
theorem jf23 : (Rows.vaultNilRow.shortTexts.isNone) = true := by kernel_rfl
end Go.Proofs.YtiiifhddpdhagaaGreatDoor
