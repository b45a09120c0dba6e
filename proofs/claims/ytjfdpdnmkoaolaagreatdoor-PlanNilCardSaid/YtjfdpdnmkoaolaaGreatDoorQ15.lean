/- A memo: what a call that only reads gave. A memo: what a call that only reads gave. A memo: what a call that only reads gave. -/
import Derived.Test.YtjfdpdnmkoaolaaGreatDoorQ12
set_option linter.all false
namespace Go.Proofs.YtjfdpdnmkoaolaaGreatDoor
open Go
noncomputable section
def me9 : ME := ⟨285, [], ⟨358, .u8, n57⟩, 0, false, 512, 512, [(I 64)], (Tu [(Ag ([(I 64), (U 123)] ++ (List.replicate 15 (U 0)))), (I 0)])⟩
theorem me9_ok : me9.good E0 1000000 = true := by kernel_rfl
end
end Go.Proofs.YtjfdpdnmkoaolaaGreatDoor
namespace Go.Proofs.YtjfdpdnmkoaolaaGreatDoor
open Go
noncomputable section
def me10 : ME := ⟨285, [], ⟨358, .u8, n60⟩, 0, false, 512, 512, [(I 64)], (Tu [(Ag ([(I 64), (U 59)] ++ (List.replicate 15 (U 0)))), (I 0)])⟩
theorem me10_ok : me10.good E0 1000000 = true := by kernel_rfl
end
end Go.Proofs.YtjfdpdnmkoaolaaGreatDoor
namespace Go.Proofs.YtjfdpdnmkoaolaaGreatDoor
open Go
noncomputable section
def me11 : ME := ⟨285, [], ⟨358, .u8, n76⟩, 0, false, 512, 512, [(I 64)], (Tu [(Ag ([(I 64), (U 27)] ++ (List.replicate 15 (U 0)))), (I 0)])⟩
theorem me11_ok : me11.good E0 1000000 = true := by kernel_rfl
end
end Go.Proofs.YtjfdpdnmkoaolaaGreatDoor
