/- What the row says of the program, by parts: 1. -/
import Derived.Test.YtjfdpdnmkoaolaaGreatDoorRows
import Derived.JoinedOf
import Derived.JoinedCond
set_option linter.all false
namespace Go.Proofs.YtjfdpdnmkoaolaaGreatDoor
open Go
set_option maxRecDepth 100000
theorem jf0 : (Rows.planNilRow.wf (OpenSpec.ofChange (OpenSpec.ofChange Rows.planNilSpec).bare )) = true := by kernel_rfl
theorem jf1 : (laidOutB Tryz.prog) = true := by kernel_rfl
theorem jf2 : (mapsRowed Tryz.prog) = true := by kernel_rfl
theorem jf3 : (Tryz.f3.params.all ( Tryz.prog.readableRec ·)) = true := by kernel_rfl
theorem jf4 : (namedTie Tryz.prog Rows.planNilRow.named (OpenSpec.ofChange Rows.planNilSpec).bare.vars) = true := by kernel_rfl
theorem jf5 : (( Rows.planNilRow.stops == [])) = true := by kernel_rfl
theorem jf6 : (( Tryz.prog.stops == [])) = true := by kernel_rfl
theorem jf7 : (( Rows.planNilRow.knobs == [])) = true := by kernel_rfl
theorem jf8 : (( Tryz.prog.stopKnobs == [])) = true := by kernel_rfl
end Go.Proofs.YtjfdpdnmkoaolaaGreatDoor
