/- A memo: what a call that only reads gave. A memo: what a call that only reads gave. A memo: what a call that only reads gave. A memo: what a call that only reads gave. -/
import Derived.Test.YtjfdpdnmkoaolaaGreatDoorQ12
set_option linter.all false
namespace Go.Proofs.YtjfdpdnmkoaolaaGreatDoor
open Go
noncomputable section
def me12 : ME := ⟨285, [], ⟨429, .u8, n12⟩, 0, false, 512, 512, [(I 64)], (Tu [(Ag ([(I 64), (U 3)] ++ (List.replicate 15 (U 0)))), (I 0)])⟩
theorem me12_ok : me12.good E0 1000000 = true := by kernel_rfl
end
end Go.Proofs.YtjfdpdnmkoaolaaGreatDoor
namespace Go.Proofs.YtjfdpdnmkoaolaaGreatDoor
open Go
noncomputable section
def me13 : ME := ⟨285, [], ⟨429, .u8, n2⟩, 0, false, 512, 512, [(I 64)], (Tu [(Ag ([(I 64), (U 1)] ++ (List.replicate 15 (U 0)))), (I 0)])⟩
theorem me13_ok : me13.good E0 1000000 = true := by kernel_rfl
end
end Go.Proofs.YtjfdpdnmkoaolaaGreatDoor
namespace Go.Proofs.YtjfdpdnmkoaolaaGreatDoor
open Go
noncomputable section
def me14 : ME := ⟨344, [gHalves], ⟨429, .u8, n0⟩, 0, false, 512, 512, [], (Tu [(Ag [(U 0), ff, e0]), (I 3)])⟩
theorem me14_ok : me14.good E0 1000000 = true := by kernel_rfl
end
end Go.Proofs.YtjfdpdnmkoaolaaGreatDoor
namespace Go.Proofs.YtjfdpdnmkoaolaaGreatDoor
open Go
noncomputable section
def me15 : ME := ⟨344, [gHalves], ⟨429, .u8, n5⟩, 0, false, 512, 512, [], (Tu [(Ag [(U 1), ff, (St t8)]), (I 0)])⟩
theorem me15_ok : me15.good E0 1000000 = true := by kernel_rfl
end
end Go.Proofs.YtjfdpdnmkoaolaaGreatDoor
