/- Runs of RenameOne. Runs of RenameOne. -/
import Derived.Test.YtdcioacjhpnihaaGreatDoorQ30
import Derived.Test.YtdcioacjhpnihaaGreatDoorQ31
set_option linter.all false
namespace Go.Proofs.YtdcioacjhpnihaaGreatDoor
open Go
noncomputable section
set_option maxRecDepth 1000000 in
theorem rn21_ff : runR (E4.more (orcS [ps1])) fRen [lb, (sT 0), .bool false, .bool false] (.bool true) = true := by kernel_rfl
set_option maxRecDepth 1000000 in
theorem rn21_ft : runR E4 fRen [lb, (sT 0), .bool false, .bool true] (.bool true) = true := by kernel_rfl
set_option maxRecDepth 1000000 in
theorem rn21_tf : runR (E4.more (orcS [ps1])) fRen [lb, (sT 0), .bool true, .bool false] (.bool true) = true := by kernel_rfl
set_option maxRecDepth 1000000 in
theorem rn21_tt : runR E4 fRen [lb, (sT 0), .bool true, .bool true] (.bool true) = true := by kernel_rfl
theorem rn21 : ∀ ov th, ∃ E : Env, E.Ok ∧ E.P = Tryz.prog ∧ E.C.G = 8 ∧ runR E fRen [lb, (sT 0), .bool ov, .bool th] (.bool true) = true
  | false, false => ⟨(E4.more (orcS [ps1])), (orcS_ok fun c hc args s h => by simp only [List.mem_cons, List.not_mem_nil, or_false] at hc; subst hc; exact ps1_call h), rfl, rfl, rn21_ff⟩
  | false, true => ⟨E4, E4_ok, rfl, rfl, rn21_ft⟩
  | true, false => ⟨(E4.more (orcS [ps1])), (orcS_ok fun c hc args s h => by simp only [List.mem_cons, List.not_mem_nil, or_false] at hc; subst hc; exact ps1_call h), rfl, rfl, rn21_tf⟩
  | true, true => ⟨E4, E4_ok, rfl, rfl, rn21_tt⟩
end
end Go.Proofs.YtdcioacjhpnihaaGreatDoor
namespace Go.Proofs.YtdcioacjhpnihaaGreatDoor
open Go
noncomputable section
set_option maxRecDepth 1000000 in
theorem rn22_ff : runR (E4.more (orcS [ps1])) fRen [lb, (sT 1), .bool false, .bool false] (.bool true) = true := by kernel_rfl
set_option maxRecDepth 1000000 in
theorem rn22_ft : runR E4 fRen [lb, (sT 1), .bool false, .bool true] (.bool true) = true := by kernel_rfl
set_option maxRecDepth 1000000 in
theorem rn22_tf : runR (E4.more (orcS [ps1])) fRen [lb, (sT 1), .bool true, .bool false] (.bool true) = true := by kernel_rfl
set_option maxRecDepth 1000000 in
theorem rn22_tt : runR E4 fRen [lb, (sT 1), .bool true, .bool true] (.bool true) = true := by kernel_rfl
theorem rn22 : ∀ ov th, ∃ E : Env, E.Ok ∧ E.P = Tryz.prog ∧ E.C.G = 8 ∧ runR E fRen [lb, (sT 1), .bool ov, .bool th] (.bool true) = true
  | false, false => ⟨(E4.more (orcS [ps1])), (orcS_ok fun c hc args s h => by simp only [List.mem_cons, List.not_mem_nil, or_false] at hc; subst hc; exact ps1_call h), rfl, rfl, rn22_ff⟩
  | false, true => ⟨E4, E4_ok, rfl, rfl, rn22_ft⟩
  | true, false => ⟨(E4.more (orcS [ps1])), (orcS_ok fun c hc args s h => by simp only [List.mem_cons, List.not_mem_nil, or_false] at hc; subst hc; exact ps1_call h), rfl, rfl, rn22_tf⟩
  | true, true => ⟨E4, E4_ok, rfl, rfl, rn22_tt⟩
end
end Go.Proofs.YtdcioacjhpnihaaGreatDoor
