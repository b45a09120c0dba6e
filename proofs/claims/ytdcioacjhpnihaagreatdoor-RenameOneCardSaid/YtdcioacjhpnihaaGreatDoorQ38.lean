/- Runs of RenameOne. -/
import Derived.Test.YtdcioacjhpnihaaGreatDoorQ30
set_option linter.all false
namespace Go.Proofs.YtdcioacjhpnihaaGreatDoor
open Go
noncomputable section
set_option maxRecDepth 1000000 in
theorem rn18_ff : runR E4 fRen [la, (sT 3), .bool false, .bool false] (.bool true) = true := by kernel_rfl
set_option maxRecDepth 1000000 in
theorem rn18_ft : runR E4 fRen [la, (sT 3), .bool false, .bool true] (.bool true) = true := by kernel_rfl
set_option maxRecDepth 1000000 in
theorem rn18_tf : runR E4 fRen [la, (sT 3), .bool true, .bool false] (.bool true) = true := by kernel_rfl
set_option maxRecDepth 1000000 in
theorem rn18_tt : runR E4 fRen [la, (sT 3), .bool true, .bool true] (.bool true) = true := by kernel_rfl
theorem rn18 : ∀ ov th, ∃ E : Env, E.Ok ∧ E.P = Tryz.prog ∧ E.C.G = 8 ∧ runR E fRen [la, (sT 3), .bool ov, .bool th] (.bool true) = true
  | false, false => ⟨E4, E4_ok, rfl, rfl, rn18_ff⟩
  | false, true => ⟨E4, E4_ok, rfl, rfl, rn18_ft⟩
  | true, false => ⟨E4, E4_ok, rfl, rfl, rn18_tf⟩
  | true, true => ⟨E4, E4_ok, rfl, rfl, rn18_tt⟩
end
end Go.Proofs.YtdcioacjhpnihaaGreatDoor
