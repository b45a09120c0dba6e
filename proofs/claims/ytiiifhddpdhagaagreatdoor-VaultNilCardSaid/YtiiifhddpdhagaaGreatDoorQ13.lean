/- A memo: what a call that only reads gave. A memo: what a call that only reads gave. A memo: what a call that only reads gave. -/
import Derived.Test.YtiiifhddpdhagaaGreatDoorQ12
set_option linter.all false
namespace Go.Proofs.YtiiifhddpdhagaaGreatDoor
open Go
noncomputable section
def me3 : ME := ⟨346, [], ⟨332, .u8, n12⟩, 0, false, 512, 512, [(I 64)], (Tu [(Ag ([(I 64), (U 3)] ++ (List.replicate 15 (U 0)))), (I 0)])⟩
theorem me3_ok : me3.good E0 1000000 = true := by kernel_rfl
end
end Go.Proofs.YtiiifhddpdhagaaGreatDoor
namespace Go.Proofs.YtiiifhddpdhagaaGreatDoor
open Go
noncomputable section
def me4 : ME := ⟨346, [], ⟨332, .u8, n24⟩, 0, false, 512, 512, [(I 64)], (Tu [(Ag ([(I 64), (U 7)] ++ (List.replicate 15 (U 0)))), (I 0)])⟩
theorem me4_ok : me4.good E0 1000000 = true := by kernel_rfl
end
end Go.Proofs.YtiiifhddpdhagaaGreatDoor
namespace Go.Proofs.YtiiifhddpdhagaaGreatDoor
open Go
noncomputable section
def me5 : ME := ⟨346, [], ⟨332, .u8, n27⟩, 0, false, 512, 512, [(I 64)], (Tu [(Ag ([(I 64), (U 15)] ++ (List.replicate 15 (U 0)))), (I 0)])⟩
theorem me5_ok : me5.good E0 1000000 = true := by kernel_rfl
end
end Go.Proofs.YtiiifhddpdhagaaGreatDoor
