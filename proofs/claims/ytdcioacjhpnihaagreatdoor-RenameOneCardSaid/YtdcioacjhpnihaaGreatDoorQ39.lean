/- Runs of RenameOne. Runs of RenameOne. -/
import Derived.Test.YtdcioacjhpnihaaGreatDoorQ30
import Derived.Test.YtdcioacjhpnihaaGreatDoorQ31
import Derived.Test.YtdcioacjhpnihaaGreatDoorQ32
set_option linter.all false
namespace Go.Proofs.YtdcioacjhpnihaaGreatDoor
open Go
noncomputable section
set_option maxRecDepth 1000000 in
theorem rn19_ff : runR (E4.more (orcS [ps1])) fRen [lb, la, .bool false, .bool false] (.bool true) = true := by kernel_rfl
set_option maxRecDepth 1000000 in
theorem rn19_ft : runR (E4.more (orcS [ps0])) fRen [lb, la, .bool false, .bool true] (.bool true) = true := by kernel_rfl
set_option maxRecDepth 1000000 in
theorem rn19_tf : runR (E4.more (orcS [ps1])) fRen [lb, la, .bool true, .bool false] (.bool true) = true := by kernel_rfl
set_option maxRecDepth 1000000 in
theorem rn19_tt : runR (E4.more (orcS [ps3])) fRen [lb, la, .bool true, .bool true] (.bool true) = true := by kernel_rfl
theorem rn19 : ∀ ov th, ∃ E : Env, E.Ok ∧ E.P = Tryz.prog ∧ E.C.G = 8 ∧ runR E fRen [lb, la, .bool ov, .bool th] (.bool true) = true
  | false, false => ⟨(E4.more (orcS [ps1])), (orcS_ok fun c hc args s h => by simp only [List.mem_cons, List.not_mem_nil, or_false] at hc; subst hc; exact ps1_call h), rfl, rfl, rn19_ff⟩
  | false, true => ⟨(E4.more (orcS [ps0])), (orcS_ok fun c hc args s h => by simp only [List.mem_cons, List.not_mem_nil, or_false] at hc; subst hc; exact ps0_call h), rfl, rfl, rn19_ft⟩
  | true, false => ⟨(E4.more (orcS [ps1])), (orcS_ok fun c hc args s h => by simp only [List.mem_cons, List.not_mem_nil, or_false] at hc; subst hc; exact ps1_call h), rfl, rfl, rn19_tf⟩
  | true, true => ⟨(E4.more (orcS [ps3])), (orcS_ok fun c hc args s h => by simp only [List.mem_cons, List.not_mem_nil, or_false] at hc; subst hc; exact ps3_call h), rfl, rfl, rn19_tt⟩
end
end Go.Proofs.YtdcioacjhpnihaaGreatDoor
namespace Go.Proofs.YtdcioacjhpnihaaGreatDoor
open Go
noncomputable section
set_option maxRecDepth 1000000 in
theorem rn20_ff : runR (E4.more (orcS [ps1])) fRen [lb, lb, .bool false, .bool false] (.bool true) = true := by kernel_rfl
set_option maxRecDepth 1000000 in
theorem rn20_ft : runR (E4.more (orcS [ps0])) fRen [lb, lb, .bool false, .bool true] (.bool true) = true := by kernel_rfl
set_option maxRecDepth 1000000 in
theorem rn20_tf : runR (E4.more (orcS [ps1])) fRen [lb, lb, .bool true, .bool false] (.bool true) = true := by kernel_rfl
set_option maxRecDepth 1000000 in
theorem rn20_tt : runR (E4.more (orcS [ps0])) fRen [lb, lb, .bool true, .bool true] (.bool true) = true := by kernel_rfl
theorem rn20 : ∀ ov th, ∃ E : Env, E.Ok ∧ E.P = Tryz.prog ∧ E.C.G = 8 ∧ runR E fRen [lb, lb, .bool ov, .bool th] (.bool true) = true
  | false, false => ⟨(E4.more (orcS [ps1])), (orcS_ok fun c hc args s h => by simp only [List.mem_cons, List.not_mem_nil, or_false] at hc; subst hc; exact ps1_call h), rfl, rfl, rn20_ff⟩
  | false, true => ⟨(E4.more (orcS [ps0])), (orcS_ok fun c hc args s h => by simp only [List.mem_cons, List.not_mem_nil, or_false] at hc; subst hc; exact ps0_call h), rfl, rfl, rn20_ft⟩
  | true, false => ⟨(E4.more (orcS [ps1])), (orcS_ok fun c hc args s h => by simp only [List.mem_cons, List.not_mem_nil, or_false] at hc; subst hc; exact ps1_call h), rfl, rfl, rn20_tf⟩
  | true, true => ⟨(E4.more (orcS [ps0])), (orcS_ok fun c hc args s h => by simp only [List.mem_cons, List.not_mem_nil, or_false] at hc; subst hc; exact ps0_call h), rfl, rfl, rn20_tt⟩
end
end Go.Proofs.YtdcioacjhpnihaaGreatDoor
