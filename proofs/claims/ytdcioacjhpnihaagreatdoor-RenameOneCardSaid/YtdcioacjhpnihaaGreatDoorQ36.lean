/- Runs of RenameOne. -/
import Derived.Test.YtdcioacjhpnihaaGreatDoorQ30
set_option linter.all false
namespace Go.Proofs.YtdcioacjhpnihaaGreatDoor
open Go
noncomputable section
set_option maxRecDepth 1000000 in
theorem rn16_ff : runR E4 fRen [la, (sT 0), .bool false, .bool false] (.bool true) = true := by kernel_rfl
set_option maxRecDepth 1000000 in
theorem rn16_ft : runR E4 fRen [la, (sT 0), .bool false, .bool true] (.bool true) = true := by kernel_rfl
set_option maxRecDepth 1000000 in
theorem rn16_tf : runR E4 fRen [la, (sT 0), .bool true, .bool false] (.bool true) = true := by kernel_rfl
set_option maxRecDepth 1000000 in
theorem rn16_tt : runR E4 fRen [la, (sT 0), .bool true, .bool true] (.bool true) = true := by kernel_rfl
theorem rn16 : ∀ ov th, ∃ E : Env, E.Ok ∧ E.P = Tryz.prog ∧ E.C.G = 8 ∧ runR E fRen [la, (sT 0), .bool ov, .bool th] (.bool true) = true
  | false, false => ⟨E4, E4_ok, rfl, rfl, rn16_ff⟩
  | false, true => ⟨E4, E4_ok, rfl, rfl, rn16_ft⟩
  | true, false => ⟨E4, E4_ok, rfl, rfl, rn16_tf⟩
  | true, true => ⟨E4, E4_ok, rfl, rfl, rn16_tt⟩
end
end Go.Proofs.YtdcioacjhpnihaaGreatDoor
