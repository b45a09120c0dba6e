/- A memo: what a call that only reads gave. A memo: what a call that only reads gave. A memo: what a call that only reads gave. -/
import Derived.Test.YtjfdpdnmkoaolaaGreatDoorQ12
set_option linter.all false
namespace Go.Proofs.YtjfdpdnmkoaolaaGreatDoor
open Go
noncomputable section
def me6 : ME := ⟨285, [], ⟨358, .u8, n27⟩, 0, false, 512, 512, [(I 64)], (Tu [(Ag ([(I 64), (U 63)] ++ (List.replicate 15 (U 0)))), (I 0)])⟩
theorem me6_ok : me6.good E0 1000000 = true := by kernel_rfl
end
end Go.Proofs.YtjfdpdnmkoaolaaGreatDoor
namespace Go.Proofs.YtjfdpdnmkoaolaaGreatDoor
open Go
noncomputable section
def me7 : ME := ⟨285, [], ⟨358, .u8, n2⟩, 0, false, 512, 512, [(I 64)], (Tu [(Ag ([(I 64), (U 1)] ++ (List.replicate 15 (U 0)))), (I 0)])⟩
theorem me7_ok : me7.good E0 1000000 = true := by kernel_rfl
end
end Go.Proofs.YtjfdpdnmkoaolaaGreatDoor
namespace Go.Proofs.YtjfdpdnmkoaolaaGreatDoor
open Go
noncomputable section
def me8 : ME := ⟨285, [], ⟨358, .u8, n37⟩, 0, false, 512, 512, [(I 64)], (Tu [(Ag ([(I 64), (U 127)] ++ (List.replicate 15 (U 0)))), (I 0)])⟩
theorem me8_ok : me8.good E0 1000000 = true := by kernel_rfl
end
end Go.Proofs.YtjfdpdnmkoaolaaGreatDoor
