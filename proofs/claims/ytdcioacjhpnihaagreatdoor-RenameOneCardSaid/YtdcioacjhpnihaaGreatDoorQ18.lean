/- A memo: what a call that only reads gave. A memo: what a call that only reads gave. A memo: what a call that only reads gave. -/
import Derived.Test.YtdcioacjhpnihaaGreatDoorQ13
set_option linter.all false
namespace Go.Proofs.YtdcioacjhpnihaaGreatDoor
open Go
noncomputable section
def me12 : ME := ⟨304, [], ⟨427, .u8, n12⟩, 0, false, 512, 512, [(I 64)], (Tu [(Ag ([(I 64), (U 3)] ++ (List.replicate 15 (U 0)))), (I 0)])⟩
theorem me12_ok : me12.good E0 1000000 = true := by kernel_rfl
end
end Go.Proofs.YtdcioacjhpnihaaGreatDoor
namespace Go.Proofs.YtdcioacjhpnihaaGreatDoor
open Go
noncomputable section
def me13 : ME := ⟨304, [], ⟨427, .u8, n2⟩, 0, false, 512, 512, [(I 64)], (Tu [(Ag ([(I 64), (U 1)] ++ (List.replicate 15 (U 0)))), (I 0)])⟩
theorem me13_ok : me13.good E0 1000000 = true := by kernel_rfl
end
end Go.Proofs.YtdcioacjhpnihaaGreatDoor
namespace Go.Proofs.YtdcioacjhpnihaaGreatDoor
open Go
noncomputable section
def me14 : ME := ⟨359, [gHalves], ⟨427, .u8, n0⟩, 0, false, 512, 512, [], (Tu [(Ag [(U 0), ff, e0]), (I 3)])⟩
theorem me14_ok : me14.good E0 1000000 = true := by kernel_rfl
end
end Go.Proofs.YtdcioacjhpnihaaGreatDoor
