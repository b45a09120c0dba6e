/- What the row says of the program, by parts: 7. -/
import Derived.Test.YtjfdpdnmkoaolaaGreatDoorRows
import Derived.JoinedOf
import Derived.JoinedCond
set_option linter.all false
namespace Go.Proofs.YtjfdpdnmkoaolaaGreatDoor
open Go
set_option maxRecDepth 100000
theorem jf24 : (Tryz.prog.stopsHeard) = true := by kernel_rfl
theorem jf25 : (Tryz.prog.mayEnter) = true := by kernel_rfl
theorem jf26 : (( Rows.planNilRow.lifted == Tryz.prog.liftsFinal)) = true := by kernel_rfl
theorem jf27 : (( Tryz.prog.make == some Rows.planNilRow.make)) = true := by kernel_rfl
theorem jf28 : (( Rows.planNilRow.kinds == (if Rows.planNilRow.domain.isEmpty then [] else Tryz.f3.params.toList.map fun t => match Tryz.prog.underlying t with | some (.int k) => some k | _ => none))) = true := by kernel_rfl
theorem jf29 : (( Rows.planNilRow.pinned == Rows.planNilRow.pinnedBy)) = true := by kernel_rfl
theorem jf30 : (( Rows.planNilRow.veiled == ( Tryz.f3.params.toList ++ (OpenSpec.ofChange Rows.planNilSpec).bare.plain.varTypes Tryz.prog ++ Tryz.f3.resultTypes.toList).any ( Tryz.prog.veiledRec ·))) = true := by kernel_rfl
theorem jf31 : (Rows.planNilRow.veiledFits Tryz.prog Tryz.f3.params.toList ( Tryz.f3.params.toList ++ (OpenSpec.ofChange Rows.planNilSpec).bare.plain.varTypes Tryz.prog ++ Tryz.f3.resultTypes.toList)) = true := by kernel_rfl
end Go.Proofs.YtjfdpdnmkoaolaaGreatDoor
