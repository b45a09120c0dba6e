/- What the row says of the program, by parts: 1. -/
import Derived.Test.YtdcioacjhpnihaaGreatDoorRows
import Derived.JoinedOf
import Derived.JoinedCond
set_option linter.all false
namespace Go.Proofs.YtdcioacjhpnihaaGreatDoor
open Go
set_option maxRecDepth 100000
theorem jf0 : (Rows.renameOneRow.wf (OpenSpec.ofChange (OpenSpec.ofChange Rows.renameOneSpec).bare )) = true := by kernel_rfl
theorem jf1 : (laidOutB Tryz.prog) = true := by kernel_rfl
theorem jf2 : (mapsRowed Tryz.prog) = true := by kernel_rfl
theorem jf3 : (Tryz.f3.params.all ( Tryz.prog.readableRec ·)) = true := by kernel_rfl
theorem jf4 : (namedTie Tryz.prog Rows.renameOneRow.named (OpenSpec.ofChange Rows.renameOneSpec).bare.vars) = true := by kernel_rfl
theorem jf5 : (( Rows.renameOneRow.stops == [])) = true := by kernel_rfl
theorem jf6 : (( Tryz.prog.stops == [])) = true := by kernel_rfl
theorem jf7 : (( Rows.renameOneRow.knobs == [])) = true := by kernel_rfl
theorem jf8 : (( Tryz.prog.stopKnobs == [])) = true := by kernel_rfl
end Go.Proofs.YtdcioacjhpnihaaGreatDoor
