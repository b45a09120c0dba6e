/- Roots of primes. Roots of primes. Roots of primes. -/
import Derived.Test.YtdcioacjhpnihaaGreatDoorQ14
set_option linter.all false
namespace Go.Proofs.YtdcioacjhpnihaaGreatDoor
open Go
noncomputable section
theorem root0 : rootB E0t 67 (2, 3, 1116352408) = true := by kernel_rfl
theorem root1 : rootB E0t 67 (3, 3, 1899447441) = true := by kernel_rfl
theorem root2 : rootB E0t 67 (5, 3, 3049323471) = true := by kernel_rfl
theorem root3 : rootB E0t 67 (7, 3, 3921009573) = true := by kernel_rfl
theorem root4 : rootB E0t 67 (11, 3, 961987163) = true := by kernel_rfl
theorem root5 : rootB E0t 67 (13, 3, 1508970993) = true := by kernel_rfl
theorem root6 : rootB E0t 67 (17, 3, 2453635748) = true := by kernel_rfl
theorem root7 : rootB E0t 67 (19, 3, 2870763221) = true := by kernel_rfl
theorem root8 : rootB E0t 67 (23, 3, 3624381080) = true := by kernel_rfl
theorem root9 : rootB E0t 67 (29, 3, 310598401) = true := by kernel_rfl
theorem root10 : rootB E0t 67 (31, 3, 607225278) = true := by kernel_rfl
theorem root11 : rootB E0t 67 (37, 3, 1426881987) = true := by kernel_rfl
end
end Go.Proofs.YtdcioacjhpnihaaGreatDoor
namespace Go.Proofs.YtdcioacjhpnihaaGreatDoor
open Go
noncomputable section
theorem root12 : rootB E0t 67 (41, 3, 1925078388) = true := by kernel_rfl
theorem root13 : rootB E0t 67 (43, 3, 2162078206) = true := by kernel_rfl
theorem root14 : rootB E0t 67 (47, 3, 2614888103) = true := by kernel_rfl
theorem root15 : rootB E0t 67 (53, 3, 3248222580) = true := by kernel_rfl
theorem root16 : rootB E0t 67 (59, 3, 3835390401) = true := by kernel_rfl
theorem root17 : rootB E0t 67 (61, 3, 4022224774) = true := by kernel_rfl
theorem root18 : rootB E0t 67 (67, 3, 264347078) = true := by kernel_rfl
theorem root19 : rootB E0t 67 (71, 3, 604807628) = true := by kernel_rfl
theorem root20 : rootB E0t 67 (73, 3, 770255983) = true := by kernel_rfl
theorem root21 : rootB E0t 67 (79, 3, 1249150122) = true := by kernel_rfl
theorem root22 : rootB E0t 67 (83, 3, 1555081692) = true := by kernel_rfl
theorem root23 : rootB E0t 67 (89, 3, 1996064986) = true := by kernel_rfl
end
end Go.Proofs.YtdcioacjhpnihaaGreatDoor
namespace Go.Proofs.YtdcioacjhpnihaaGreatDoor
open Go
noncomputable section
theorem root24 : rootB E0t 67 (97, 3, 2554220882) = true := by kernel_rfl
theorem root25 : rootB E0t 67 (101, 3, 2821834349) = true := by kernel_rfl
theorem root26 : rootB E0t 67 (103, 3, 2952996808) = true := by kernel_rfl
theorem root27 : rootB E0t 67 (107, 3, 3210313671) = true := by kernel_rfl
theorem root28 : rootB E0t 67 (109, 3, 3336571891) = true := by kernel_rfl
theorem root29 : rootB E0t 67 (113, 3, 3584528711) = true := by kernel_rfl
theorem root30 : rootB E0t 67 (127, 3, 113926993) = true := by kernel_rfl
theorem root31 : rootB E0t 67 (131, 3, 338241895) = true := by kernel_rfl
theorem root32 : rootB E0t 67 (137, 3, 666307205) = true := by kernel_rfl
theorem root33 : rootB E0t 67 (139, 3, 773529912) = true := by kernel_rfl
theorem root34 : rootB E0t 67 (149, 3, 1294757372) = true := by kernel_rfl
theorem root35 : rootB E0t 67 (151, 3, 1396182291) = true := by kernel_rfl
end
end Go.Proofs.YtdcioacjhpnihaaGreatDoor
