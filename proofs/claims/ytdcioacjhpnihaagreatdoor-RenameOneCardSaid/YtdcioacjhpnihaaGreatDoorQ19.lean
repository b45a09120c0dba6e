/- A memo: what a call that only reads gave. A memo: what a call that only reads gave. A memo: what a call that only reads gave. -/
import Derived.Test.YtdcioacjhpnihaaGreatDoorQ13
set_option linter.all false
namespace Go.Proofs.YtdcioacjhpnihaaGreatDoor
open Go
noncomputable section
def me15 : ME := ⟨359, [gHalves], ⟨427, .u8, n5⟩, 0, false, 512, 512, [], (Tu [(Ag [(U 1), ff, (St t8)]), (I 0)])⟩
theorem me15_ok : me15.good E0 1000000 = true := by kernel_rfl
end
end Go.Proofs.YtdcioacjhpnihaaGreatDoor
namespace Go.Proofs.YtdcioacjhpnihaaGreatDoor
open Go
noncomputable section
def me16 : ME := ⟨359, [gHalves], ⟨427, .u8, n6⟩, 0, false, 512, 512, [], (Tu [(Ag [(U 2), ff, (St t9)]), (I 0)])⟩
theorem me16_ok : me16.good E0 1000000 = true := by kernel_rfl
end
end Go.Proofs.YtdcioacjhpnihaaGreatDoor
namespace Go.Proofs.YtdcioacjhpnihaaGreatDoor
open Go
noncomputable section
def me17 : ME := ⟨359, [gHalves], ⟨427, .u8, n7⟩, 0, false, 512, 512, [], (Tu [(Ag [(U 3), tt, (St t10)]), (I 0)])⟩
theorem me17_ok : me17.good E0 1000000 = true := by kernel_rfl
end
end Go.Proofs.YtdcioacjhpnihaaGreatDoor
