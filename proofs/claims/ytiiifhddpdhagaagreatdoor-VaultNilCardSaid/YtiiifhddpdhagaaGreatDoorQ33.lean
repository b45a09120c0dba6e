/- What the row says of the program, by parts: 9. -/
import Derived.Test.YtiiifhddpdhagaaGreatDoorCards
import Derived.Test.YtiiifhddpdhagaaGreatDoorTie
import Derived.JoinedOf
import Derived.JoinedCond
set_option linter.all false
namespace Go.Proofs.YtiiifhddpdhagaaGreatDoor
open Go
set_option maxRecDepth 100000
theorem jwf : Rows.vaultNilRow.wfByText (OpenSpec.ofChange Rows.vaultNilSpec) = true := by kernel_rfl
theorem jmain : Tryz.pinned.checked.prog.mainIs = some ((true, "594a6fe83c299fc62c286757ce06684ef466959ed4eef0a606b4aef49f3d64b1").1, (true, "594a6fe83c299fc62c286757ce06684ef466959ed4eef0a606b4aef49f3d64b1").2.toList) := by kernel_rfl
theorem jlooks : true = Tryz.pinned.checked.prog.looks [] := by kernel_rfl
theorem jfn : Tryz.pinned.checked.prog.funcNamed "armarium/armariumlaw26.VaultNil" = some 3 := by kernel_rfl
end Go.Proofs.YtiiifhddpdhagaaGreatDoor
