/- A memo: what a call that only reads gave. A memo: what a call that only reads gave. A memo: what a call that only reads gave. -/
import Derived.Test.YtjfdpdnmkoaolaaGreatDoorQ12
set_option linter.all false
namespace Go.Proofs.YtjfdpdnmkoaolaaGreatDoor
open Go
noncomputable section
def me3 : ME := ⟨285, [], ⟨358, .u8, n22⟩, 0, false, 512, 512, [(I 64)], (Tu [(Ag ([(I 64), (U 7)] ++ (List.replicate 15 (U 0)))), (I 0)])⟩
theorem me3_ok : me3.good E0 1000000 = true := by kernel_rfl
end
end Go.Proofs.YtjfdpdnmkoaolaaGreatDoor
namespace Go.Proofs.YtjfdpdnmkoaolaaGreatDoor
open Go
noncomputable section
def me4 : ME := ⟨285, [], ⟨358, .u8, n25⟩, 0, false, 512, 512, [(I 64)], (Tu [(Ag ([(I 64), (U 15)] ++ (List.replicate 15 (U 0)))), (I 0)])⟩
theorem me4_ok : me4.good E0 1000000 = true := by kernel_rfl
end
end Go.Proofs.YtjfdpdnmkoaolaaGreatDoor
namespace Go.Proofs.YtjfdpdnmkoaolaaGreatDoor
open Go
noncomputable section
def me5 : ME := ⟨285, [], ⟨358, .u8, n26⟩, 0, false, 512, 512, [(I 64)], (Tu [(Ag ([(I 64), (U 31)] ++ (List.replicate 15 (U 0)))), (I 0)])⟩
theorem me5_ok : me5.good E0 1000000 = true := by kernel_rfl
end
end Go.Proofs.YtjfdpdnmkoaolaaGreatDoor
