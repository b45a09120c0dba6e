/- Runs of RenameOne. -/
import Derived.Test.YtdcioacjhpnihaaGreatDoorQ30
import Derived.Test.YtdcioacjhpnihaaGreatDoorQ31
set_option linter.all false
namespace Go.Proofs.YtdcioacjhpnihaaGreatDoor
open Go
noncomputable section
set_option maxRecDepth 1000000 in
theorem rn23_ff : runR (E4.more (orcS [ps1])) fRen [lb, (sT 3), .bool false, .bool false] (.bool true) = true := by kernel_rfl
set_option maxRecDepth 1000000 in
theorem rn23_ft : runR E4 fRen [lb, (sT 3), .bool false, .bool true] (.bool true) = true := by kernel_rfl
set_option maxRecDepth 1000000 in
theorem rn23_tf : runR (E4.more (orcS [ps1])) fRen [lb, (sT 3), .bool true, .bool false] (.bool true) = true := by kernel_rfl
set_option maxRecDepth 1000000 in
theorem rn23_tt : runR E4 fRen [lb, (sT 3), .bool true, .bool true] (.bool true) = true := by kernel_rfl
theorem rn23 : ∀ ov th, ∃ E : Env, E.Ok ∧ E.P = Tryz.prog ∧ E.C.G = 8 ∧ runR E fRen [lb, (sT 3), .bool ov, .bool th] (.bool true) = true
  | false, false => ⟨(E4.more (orcS [ps1])), (orcS_ok fun c hc args s h => by simp only [List.mem_cons, List.not_mem_nil, or_false] at hc; subst hc; exact ps1_call h), rfl, rfl, rn23_ff⟩
  | false, true => ⟨E4, E4_ok, rfl, rfl, rn23_ft⟩
  | true, false => ⟨(E4.more (orcS [ps1])), (orcS_ok fun c hc args s h => by simp only [List.mem_cons, List.not_mem_nil, or_false] at hc; subst hc; exact ps1_call h), rfl, rfl, rn23_tf⟩
  | true, true => ⟨E4, E4_ok, rfl, rfl, rn23_tt⟩
end
end Go.Proofs.YtdcioacjhpnihaaGreatDoor
