/- What the row says of the program, by parts: 7. -/
import Derived.Test.YtgleieifinfcdaaGreatDoorRows
import Derived.JoinedOf
import Derived.JoinedCond
set_option linter.all false
namespace Go.Proofs.YtgleieifinfcdaaGreatDoor
open Go
set_option maxRecDepth 100000
theorem jf24 : (Tryz.prog.stopsHeard) = true := by kernel_rfl
theorem jf25 : (Tryz.prog.mayEnter) = true := by kernel_rfl
theorem jf26 : (( Rows.snapNilRow.lifted == Tryz.prog.liftsFinal)) = true := by kernel_rfl
theorem jf27 : (( Tryz.prog.make == some Rows.snapNilRow.make)) = true := by kernel_rfl
theorem jf28 : (( Rows.snapNilRow.kinds == (if Rows.snapNilRow.domain.isEmpty then [] else Tryz.f3.params.toList.map fun t => match Tryz.prog.underlying t with | some (.int k) => some k | _ => none))) = true := by kernel_rfl
theorem jf29 : (( Rows.snapNilRow.pinned == Rows.snapNilRow.pinnedBy)) = true := by kernel_rfl
theorem jf30 : (( Rows.snapNilRow.veiled == ( Tryz.f3.params.toList ++ (OpenSpec.ofChange Rows.snapNilSpec).bare.plain.varTypes Tryz.prog ++ Tryz.f3.resultTypes.toList).any ( Tryz.prog.veiledRec ·))) = true := by kernel_rfl
theorem jf31 : (Rows.snapNilRow.veiledFits Tryz.prog Tryz.f3.params.toList ( Tryz.f3.params.toList ++ (OpenSpec.ofChange Rows.snapNilSpec).bare.plain.varTypes Tryz.prog ++ Tryz.f3.resultTypes.toList)) = true := by kernel_rfl
end Go.Proofs.YtgleieifinfcdaaGreatDoor
