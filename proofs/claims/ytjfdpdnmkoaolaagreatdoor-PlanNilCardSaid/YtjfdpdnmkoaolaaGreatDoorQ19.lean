/- Roots of primes. Roots of primes. -/
import Derived.Test.YtjfdpdnmkoaolaaGreatDoorQ18
set_option linter.all false
namespace Go.Proofs.YtjfdpdnmkoaolaaGreatDoor
open Go
noncomputable section
theorem root24 : rootB E0t 69 (97, 3, 2554220882) = true := by kernel_rfl
theorem root25 : rootB E0t 69 (101, 3, 2821834349) = true := by kernel_rfl
theorem root26 : rootB E0t 69 (103, 3, 2952996808) = true := by kernel_rfl
theorem root27 : rootB E0t 69 (107, 3, 3210313671) = true := by kernel_rfl
theorem root28 : rootB E0t 69 (109, 3, 3336571891) = true := by kernel_rfl
theorem root29 : rootB E0t 69 (113, 3, 3584528711) = true := by kernel_rfl
theorem root30 : rootB E0t 69 (127, 3, 113926993) = true := by kernel_rfl
theorem root31 : rootB E0t 69 (131, 3, 338241895) = true := by kernel_rfl
theorem root32 : rootB E0t 69 (137, 3, 666307205) = true := by kernel_rfl
theorem root33 : rootB E0t 69 (139, 3, 773529912) = true := by kernel_rfl
theorem root34 : rootB E0t 69 (149, 3, 1294757372) = true := by kernel_rfl
theorem root35 : rootB E0t 69 (151, 3, 1396182291) = true := by kernel_rfl
end
end Go.Proofs.YtjfdpdnmkoaolaaGreatDoor
namespace Go.Proofs.YtjfdpdnmkoaolaaGreatDoor
open Go
noncomputable section
theorem root36 : rootB E0t 69 (157, 3, 1695183700) = true := by kernel_rfl
theorem root37 : rootB E0t 69 (163, 3, 1986661051) = true := by kernel_rfl
theorem root38 : rootB E0t 69 (167, 3, 2177026350) = true := by kernel_rfl
theorem root39 : rootB E0t 69 (173, 3, 2456956037) = true := by kernel_rfl
theorem root40 : rootB E0t 69 (179, 3, 2730485921) = true := by kernel_rfl
theorem root41 : rootB E0t 69 (181, 3, 2820302411) = true := by kernel_rfl
theorem root42 : rootB E0t 69 (191, 3, 3259730800) = true := by kernel_rfl
theorem root43 : rootB E0t 69 (193, 3, 3345764771) = true := by kernel_rfl
theorem root44 : rootB E0t 69 (197, 3, 3516065817) = true := by kernel_rfl
theorem root45 : rootB E0t 69 (199, 3, 3600352804) = true := by kernel_rfl
theorem root46 : rootB E0t 69 (211, 3, 4094571909) = true := by kernel_rfl
theorem root47 : rootB E0t 69 (223, 3, 275423344) = true := by kernel_rfl
end
end Go.Proofs.YtjfdpdnmkoaolaaGreatDoor
