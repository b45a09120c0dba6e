/- A memo: what a call that only reads gave. A memo: what a call that only reads gave. A memo: what a call that only reads gave. A memo: what a call that only reads gave. -/
import Derived.Test.YtdcioacjhpnihaaGreatDoorQ13
set_option linter.all false
namespace Go.Proofs.YtdcioacjhpnihaaGreatDoor
open Go
noncomputable section
def me4 : ME := ⟨304, [], ⟨344, .u8, n23⟩, 0, false, 512, 512, [(I 64)], (Tu [(Ag ([(I 64), (U 15)] ++ (List.replicate 15 (U 0)))), (I 0)])⟩
theorem me4_ok : me4.good E0 1000000 = true := by kernel_rfl
end
end Go.Proofs.YtdcioacjhpnihaaGreatDoor
namespace Go.Proofs.YtdcioacjhpnihaaGreatDoor
open Go
noncomputable section
def me5 : ME := ⟨304, [], ⟨344, .u8, n24⟩, 0, false, 512, 512, [(I 64)], (Tu [(Ag ([(I 64), (U 31)] ++ (List.replicate 15 (U 0)))), (I 0)])⟩
theorem me5_ok : me5.good E0 1000000 = true := by kernel_rfl
end
end Go.Proofs.YtdcioacjhpnihaaGreatDoor
namespace Go.Proofs.YtdcioacjhpnihaaGreatDoor
open Go
noncomputable section
def me6 : ME := ⟨304, [], ⟨344, .u8, n25⟩, 0, false, 512, 512, [(I 64)], (Tu [(Ag ([(I 64), (U 63)] ++ (List.replicate 15 (U 0)))), (I 0)])⟩
theorem me6_ok : me6.good E0 1000000 = true := by kernel_rfl
end
end Go.Proofs.YtdcioacjhpnihaaGreatDoor
namespace Go.Proofs.YtdcioacjhpnihaaGreatDoor
open Go
noncomputable section
def me7 : ME := ⟨304, [], ⟨344, .u8, n2⟩, 0, false, 512, 512, [(I 64)], (Tu [(Ag ([(I 64), (U 1)] ++ (List.replicate 15 (U 0)))), (I 0)])⟩
theorem me7_ok : me7.good E0 1000000 = true := by kernel_rfl
end
end Go.Proofs.YtdcioacjhpnihaaGreatDoor
