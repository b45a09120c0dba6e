/- A memo: what a call that only reads gave. A memo: what a call that only reads gave. A memo: what a call that only reads gave. A memo: what a call that only reads gave. -/
import Derived.Test.YtdcioacjhpnihaaGreatDoorQ13
set_option linter.all false
namespace Go.Proofs.YtdcioacjhpnihaaGreatDoor
open Go
noncomputable section
def me0 : ME := ⟨181, [gFirst, gK], ⟨5, .u8, n21⟩, 0, true, 3, 3, [], (Ag r22)⟩
theorem me0_ok : me0.good E0 1000000 = true := by kernel_rfl
end
end Go.Proofs.YtdcioacjhpnihaaGreatDoor
namespace Go.Proofs.YtdcioacjhpnihaaGreatDoor
open Go
noncomputable section
def me1 : ME := ⟨181, [gFirst, gK], ⟨5, .u8, n54⟩, 0, true, 3, 3, [], (Ag r55)⟩
theorem me1_ok : me1.good E0 1000000 = true := by kernel_rfl
end
end Go.Proofs.YtdcioacjhpnihaaGreatDoor
namespace Go.Proofs.YtdcioacjhpnihaaGreatDoor
open Go
noncomputable section
def me2 : ME := ⟨304, [], ⟨344, .u8, n12⟩, 0, false, 512, 512, [(I 64)], (Tu [(Ag ([(I 64), (U 3)] ++ (List.replicate 15 (U 0)))), (I 0)])⟩
theorem me2_ok : me2.good E0 1000000 = true := by kernel_rfl
end
end Go.Proofs.YtdcioacjhpnihaaGreatDoor
namespace Go.Proofs.YtdcioacjhpnihaaGreatDoor
open Go
noncomputable section
def me3 : ME := ⟨304, [], ⟨344, .u8, n18⟩, 0, false, 512, 512, [(I 64)], (Tu [(Ag ([(I 64), (U 7)] ++ (List.replicate 15 (U 0)))), (I 0)])⟩
theorem me3_ok : me3.good E0 1000000 = true := by kernel_rfl
end
end Go.Proofs.YtdcioacjhpnihaaGreatDoor
