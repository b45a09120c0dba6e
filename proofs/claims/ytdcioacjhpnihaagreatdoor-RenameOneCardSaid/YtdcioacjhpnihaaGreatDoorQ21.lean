/- Roots of primes. Roots of primes. Roots of primes. -/
import Derived.Test.YtdcioacjhpnihaaGreatDoorQ14
set_option linter.all false
namespace Go.Proofs.YtdcioacjhpnihaaGreatDoor
open Go
noncomputable section
theorem root36 : rootB E0t 67 (157, 3, 1695183700) = true := by kernel_rfl
theorem root37 : rootB E0t 67 (163, 3, 1986661051) = true := by kernel_rfl
theorem root38 : rootB E0t 67 (167, 3, 2177026350) = true := by kernel_rfl
theorem root39 : rootB E0t 67 (173, 3, 2456956037) = true := by kernel_rfl
theorem root40 : rootB E0t 67 (179, 3, 2730485921) = true := by kernel_rfl
theorem root41 : rootB E0t 67 (181, 3, 2820302411) = true := by kernel_rfl
theorem root42 : rootB E0t 67 (191, 3, 3259730800) = true := by kernel_rfl
theorem root43 : rootB E0t 67 (193, 3, 3345764771) = true := by kernel_rfl
theorem root44 : rootB E0t 67 (197, 3, 3516065817) = true := by kernel_rfl
theorem root45 : rootB E0t 67 (199, 3, 3600352804) = true := by kernel_rfl
theorem root46 : rootB E0t 67 (211, 3, 4094571909) = true := by kernel_rfl
theorem root47 : rootB E0t 67 (223, 3, 275423344) = true := by kernel_rfl
end
end Go.Proofs.YtdcioacjhpnihaaGreatDoor
namespace Go.Proofs.YtdcioacjhpnihaaGreatDoor
open Go
noncomputable section
theorem root48 : rootB E0t 67 (227, 3, 430227734) = true := by kernel_rfl
theorem root49 : rootB E0t 67 (229, 3, 506948616) = true := by kernel_rfl
theorem root50 : rootB E0t 67 (233, 3, 659060556) = true := by kernel_rfl
theorem root51 : rootB E0t 67 (239, 3, 883997877) = true := by kernel_rfl
theorem root52 : rootB E0t 67 (241, 3, 958139571) = true := by kernel_rfl
theorem root53 : rootB E0t 67 (251, 3, 1322822218) = true := by kernel_rfl
theorem root54 : rootB E0t 67 (257, 3, 1537002063) = true := by kernel_rfl
theorem root55 : rootB E0t 67 (263, 3, 1747873779) = true := by kernel_rfl
theorem root56 : rootB E0t 67 (269, 3, 1955562222) = true := by kernel_rfl
theorem root57 : rootB E0t 67 (271, 3, 2024104815) = true := by kernel_rfl
theorem root58 : rootB E0t 67 (277, 3, 2227730452) = true := by kernel_rfl
theorem root59 : rootB E0t 67 (281, 3, 2361852424) = true := by kernel_rfl
end
end Go.Proofs.YtdcioacjhpnihaaGreatDoor
namespace Go.Proofs.YtdcioacjhpnihaaGreatDoor
open Go
noncomputable section
theorem root60 : rootB E0t 67 (283, 3, 2428436474) = true := by kernel_rfl
theorem root61 : rootB E0t 67 (293, 3, 2756734187) = true := by kernel_rfl
theorem root62 : rootB E0t 67 (307, 3, 3204031479) = true := by kernel_rfl
theorem root63 : rootB E0t 67 (311, 3, 3329325298) = true := by kernel_rfl
theorem root64 : rootB E0t 67 (2, 2, 1779033703) = true := by kernel_rfl
theorem root65 : rootB E0t 67 (3, 2, 3144134277) = true := by kernel_rfl
theorem root66 : rootB E0t 67 (5, 2, 1013904242) = true := by kernel_rfl
theorem root67 : rootB E0t 67 (7, 2, 2773480762) = true := by kernel_rfl
theorem root68 : rootB E0t 67 (11, 2, 1359893119) = true := by kernel_rfl
theorem root69 : rootB E0t 67 (13, 2, 2600822924) = true := by kernel_rfl
theorem root70 : rootB E0t 67 (17, 2, 528734635) = true := by kernel_rfl
theorem root71 : rootB E0t 67 (19, 2, 1541459225) = true := by kernel_rfl
end
end Go.Proofs.YtdcioacjhpnihaaGreatDoor
