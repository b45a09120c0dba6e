/- Roots of primes. Roots of primes. -/
import Derived.Test.YtjfdpdnmkoaolaaGreatDoorQ18
set_option linter.all false
namespace Go.Proofs.YtjfdpdnmkoaolaaGreatDoor
open Go
noncomputable section
theorem root48 : rootB E0t 69 (227, 3, 430227734) = true := by kernel_rfl
theorem root49 : rootB E0t 69 (229, 3, 506948616) = true := by kernel_rfl
theorem root50 : rootB E0t 69 (233, 3, 659060556) = true := by kernel_rfl
theorem root51 : rootB E0t 69 (239, 3, 883997877) = true := by kernel_rfl
theorem root52 : rootB E0t 69 (241, 3, 958139571) = true := by kernel_rfl
theorem root53 : rootB E0t 69 (251, 3, 1322822218) = true := by kernel_rfl
theorem root54 : rootB E0t 69 (257, 3, 1537002063) = true := by kernel_rfl
theorem root55 : rootB E0t 69 (263, 3, 1747873779) = true := by kernel_rfl
theorem root56 : rootB E0t 69 (269, 3, 1955562222) = true := by kernel_rfl
theorem root57 : rootB E0t 69 (271, 3, 2024104815) = true := by kernel_rfl
theorem root58 : rootB E0t 69 (277, 3, 2227730452) = true := by kernel_rfl
theorem root59 : rootB E0t 69 (281, 3, 2361852424) = true := by kernel_rfl
end
end Go.Proofs.YtjfdpdnmkoaolaaGreatDoor
namespace Go.Proofs.YtjfdpdnmkoaolaaGreatDoor
open Go
noncomputable section
theorem root60 : rootB E0t 69 (283, 3, 2428436474) = true := by kernel_rfl
theorem root61 : rootB E0t 69 (293, 3, 2756734187) = true := by kernel_rfl
theorem root62 : rootB E0t 69 (307, 3, 3204031479) = true := by kernel_rfl
theorem root63 : rootB E0t 69 (311, 3, 3329325298) = true := by kernel_rfl
theorem root64 : rootB E0t 69 (2, 2, 1779033703) = true := by kernel_rfl
theorem root65 : rootB E0t 69 (3, 2, 3144134277) = true := by kernel_rfl
theorem root66 : rootB E0t 69 (5, 2, 1013904242) = true := by kernel_rfl
theorem root67 : rootB E0t 69 (7, 2, 2773480762) = true := by kernel_rfl
theorem root68 : rootB E0t 69 (11, 2, 1359893119) = true := by kernel_rfl
theorem root69 : rootB E0t 69 (13, 2, 2600822924) = true := by kernel_rfl
theorem root70 : rootB E0t 69 (17, 2, 528734635) = true := by kernel_rfl
theorem root71 : rootB E0t 69 (19, 2, 1541459225) = true := by kernel_rfl
end
end Go.Proofs.YtjfdpdnmkoaolaaGreatDoor
