/- A memo: what a call that only reads gave. A memo: what a call that only reads gave. A memo: what a call that only reads gave. A memo: what a call that only reads gave. -/
import Derived.Test.YtiiifhddpdhagaaGreatDoorQ12
set_option linter.all false
namespace Go.Proofs.YtiiifhddpdhagaaGreatDoor
open Go
noncomputable section
def me9 : ME := ⟨346, [], ⟨332, .u8, n39⟩, 0, false, 512, 512, [(I 64)], (Tu [(Ag ([(I 64), (U 127)] ++ (List.replicate 15 (U 0)))), (I 0)])⟩
theorem me9_ok : me9.good E0 1000000 = true := by kernel_rfl
end
end Go.Proofs.YtiiifhddpdhagaaGreatDoor
namespace Go.Proofs.YtiiifhddpdhagaaGreatDoor
open Go
noncomputable section
def me10 : ME := ⟨346, [], ⟨432, .u8, n12⟩, 0, false, 512, 512, [(I 64)], (Tu [(Ag ([(I 64), (U 3)] ++ (List.replicate 15 (U 0)))), (I 0)])⟩
theorem me10_ok : me10.good E0 1000000 = true := by kernel_rfl
end
end Go.Proofs.YtiiifhddpdhagaaGreatDoor
namespace Go.Proofs.YtiiifhddpdhagaaGreatDoor
open Go
noncomputable section
def me11 : ME := ⟨346, [], ⟨432, .u8, n2⟩, 0, false, 512, 512, [(I 64)], (Tu [(Ag ([(I 64), (U 1)] ++ (List.replicate 15 (U 0)))), (I 0)])⟩
theorem me11_ok : me11.good E0 1000000 = true := by kernel_rfl
end
end Go.Proofs.YtiiifhddpdhagaaGreatDoor
namespace Go.Proofs.YtiiifhddpdhagaaGreatDoor
open Go
noncomputable section
def me12 : ME := ⟨401, [gHalves], ⟨432, .u8, n0⟩, 0, false, 512, 512, [], (Tu [(Ag [(U 0), ff, e0]), (I 3)])⟩
theorem me12_ok : me12.good E0 1000000 = true := by kernel_rfl
end
end Go.Proofs.YtiiifhddpdhagaaGreatDoor
