/- A memo: what a call that only reads gave. A memo: what a call that only reads gave. A memo: what a call that only reads gave. A memo: what a call that only reads gave. -/
import Derived.Test.YtdcioacjhpnihaaGreatDoorQ13
set_option linter.all false
namespace Go.Proofs.YtdcioacjhpnihaaGreatDoor
open Go
noncomputable section
def me8 : ME := ⟨304, [], ⟨344, .u8, n35⟩, 0, false, 512, 512, [(I 64)], (Tu [(Ag ([(I 64), (U 127)] ++ (List.replicate 15 (U 0)))), (I 0)])⟩
theorem me8_ok : me8.good E0 1000000 = true := by kernel_rfl
end
end Go.Proofs.YtdcioacjhpnihaaGreatDoor
namespace Go.Proofs.YtdcioacjhpnihaaGreatDoor
open Go
noncomputable section
def me9 : ME := ⟨304, [], ⟨344, .u8, n44⟩, 0, false, 512, 512, [(I 64)], (Tu [(Ag ([(I 64), (U 123)] ++ (List.replicate 15 (U 0)))), (I 0)])⟩
theorem me9_ok : me9.good E0 1000000 = true := by kernel_rfl
end
end Go.Proofs.YtdcioacjhpnihaaGreatDoor
namespace Go.Proofs.YtdcioacjhpnihaaGreatDoor
open Go
noncomputable section
def me10 : ME := ⟨304, [], ⟨344, .u8, n67⟩, 0, false, 512, 512, [(I 64)], (Tu [(Ag ([(I 64), (U 255)] ++ (List.replicate 15 (U 0)))), (I 0)])⟩
theorem me10_ok : me10.good E0 1000000 = true := by kernel_rfl
end
end Go.Proofs.YtdcioacjhpnihaaGreatDoor
namespace Go.Proofs.YtdcioacjhpnihaaGreatDoor
open Go
noncomputable section
def me11 : ME := ⟨304, [], ⟨344, .u8, n78⟩, 0, false, 512, 512, [(I 64)], (Tu [(Ag ([(I 64), (U 59)] ++ (List.replicate 15 (U 0)))), (I 0)])⟩
theorem me11_ok : me11.good E0 1000000 = true := by kernel_rfl
end
end Go.Proofs.YtdcioacjhpnihaaGreatDoor
