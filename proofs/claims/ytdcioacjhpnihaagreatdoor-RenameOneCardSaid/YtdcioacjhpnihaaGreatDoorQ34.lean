/- Runs of RenameOne. Runs of RenameOne. Runs of RenameOne. Runs of RenameOne. Runs of RenameOne. -/
import Derived.Test.YtdcioacjhpnihaaGreatDoorQ30
import Derived.Test.YtdcioacjhpnihaaGreatDoorQ31
set_option linter.all false
namespace Go.Proofs.YtdcioacjhpnihaaGreatDoor
open Go
noncomputable section
set_option maxRecDepth 1000000 in
theorem rn10_ff : runR (E4.more (orcS [ps1])) fRen [(sF 1), (sT 7), .bool false, .bool false] (.bool true) = true := by kernel_rfl
set_option maxRecDepth 1000000 in
theorem rn10_ft : runR (E4.more (orcS [ps0])) fRen [(sF 1), (sT 7), .bool false, .bool true] (.bool true) = true := by kernel_rfl
set_option maxRecDepth 1000000 in
theorem rn10_tf : runR (E4.more (orcS [ps1])) fRen [(sF 1), (sT 7), .bool true, .bool false] (.bool true) = true := by kernel_rfl
set_option maxRecDepth 1000000 in
theorem rn10_tt : runR (E4.more (orcS [ps0])) fRen [(sF 1), (sT 7), .bool true, .bool true] (.bool true) = true := by kernel_rfl
theorem rn10 : ∀ ov th, ∃ E : Env, E.Ok ∧ E.P = Tryz.prog ∧ E.C.G = 8 ∧ runR E fRen [(sF 1), (sT 7), .bool ov, .bool th] (.bool true) = true
  | false, false => ⟨(E4.more (orcS [ps1])), (orcS_ok fun c hc args s h => by simp only [List.mem_cons, List.not_mem_nil, or_false] at hc; subst hc; exact ps1_call h), rfl, rfl, rn10_ff⟩
  | false, true => ⟨(E4.more (orcS [ps0])), (orcS_ok fun c hc args s h => by simp only [List.mem_cons, List.not_mem_nil, or_false] at hc; subst hc; exact ps0_call h), rfl, rfl, rn10_ft⟩
  | true, false => ⟨(E4.more (orcS [ps1])), (orcS_ok fun c hc args s h => by simp only [List.mem_cons, List.not_mem_nil, or_false] at hc; subst hc; exact ps1_call h), rfl, rfl, rn10_tf⟩
  | true, true => ⟨(E4.more (orcS [ps0])), (orcS_ok fun c hc args s h => by simp only [List.mem_cons, List.not_mem_nil, or_false] at hc; subst hc; exact ps0_call h), rfl, rfl, rn10_tt⟩
end
end Go.Proofs.YtdcioacjhpnihaaGreatDoor
namespace Go.Proofs.YtdcioacjhpnihaaGreatDoor
open Go
noncomputable section
set_option maxRecDepth 1000000 in
theorem rn11_ff : runR (E4.more (orcS [ps1])) fRen [(sF 3), la, .bool false, .bool false] (.bool true) = true := by kernel_rfl
set_option maxRecDepth 1000000 in
theorem rn11_ft : runR (E4.more (orcS [ps0])) fRen [(sF 3), la, .bool false, .bool true] (.bool true) = true := by kernel_rfl
set_option maxRecDepth 1000000 in
theorem rn11_tf : runR (E4.more (orcS [ps1])) fRen [(sF 3), la, .bool true, .bool false] (.bool true) = true := by kernel_rfl
set_option maxRecDepth 1000000 in
theorem rn11_tt : runR (E4.more (orcS [ps0])) fRen [(sF 3), la, .bool true, .bool true] (.bool true) = true := by kernel_rfl
theorem rn11 : ∀ ov th, ∃ E : Env, E.Ok ∧ E.P = Tryz.prog ∧ E.C.G = 8 ∧ runR E fRen [(sF 3), la, .bool ov, .bool th] (.bool true) = true
  | false, false => ⟨(E4.more (orcS [ps1])), (orcS_ok fun c hc args s h => by simp only [List.mem_cons, List.not_mem_nil, or_false] at hc; subst hc; exact ps1_call h), rfl, rfl, rn11_ff⟩
  | false, true => ⟨(E4.more (orcS [ps0])), (orcS_ok fun c hc args s h => by simp only [List.mem_cons, List.not_mem_nil, or_false] at hc; subst hc; exact ps0_call h), rfl, rfl, rn11_ft⟩
  | true, false => ⟨(E4.more (orcS [ps1])), (orcS_ok fun c hc args s h => by simp only [List.mem_cons, List.not_mem_nil, or_false] at hc; subst hc; exact ps1_call h), rfl, rfl, rn11_tf⟩
  | true, true => ⟨(E4.more (orcS [ps0])), (orcS_ok fun c hc args s h => by simp only [List.mem_cons, List.not_mem_nil, or_false] at hc; subst hc; exact ps0_call h), rfl, rfl, rn11_tt⟩
end
end Go.Proofs.YtdcioacjhpnihaaGreatDoor
namespace Go.Proofs.YtdcioacjhpnihaaGreatDoor
open Go
noncomputable section
set_option maxRecDepth 1000000 in
theorem rn12_ff : runR (E4.more (orcS [ps1])) fRen [(sF 3), lb, .bool false, .bool false] (.bool true) = true := by kernel_rfl
set_option maxRecDepth 1000000 in
theorem rn12_ft : runR (E4.more (orcS [ps0])) fRen [(sF 3), lb, .bool false, .bool true] (.bool true) = true := by kernel_rfl
set_option maxRecDepth 1000000 in
theorem rn12_tf : runR (E4.more (orcS [ps1])) fRen [(sF 3), lb, .bool true, .bool false] (.bool true) = true := by kernel_rfl
set_option maxRecDepth 1000000 in
theorem rn12_tt : runR (E4.more (orcS [ps0])) fRen [(sF 3), lb, .bool true, .bool true] (.bool true) = true := by kernel_rfl
theorem rn12 : ∀ ov th, ∃ E : Env, E.Ok ∧ E.P = Tryz.prog ∧ E.C.G = 8 ∧ runR E fRen [(sF 3), lb, .bool ov, .bool th] (.bool true) = true
  | false, false => ⟨(E4.more (orcS [ps1])), (orcS_ok fun c hc args s h => by simp only [List.mem_cons, List.not_mem_nil, or_false] at hc; subst hc; exact ps1_call h), rfl, rfl, rn12_ff⟩
  | false, true => ⟨(E4.more (orcS [ps0])), (orcS_ok fun c hc args s h => by simp only [List.mem_cons, List.not_mem_nil, or_false] at hc; subst hc; exact ps0_call h), rfl, rfl, rn12_ft⟩
  | true, false => ⟨(E4.more (orcS [ps1])), (orcS_ok fun c hc args s h => by simp only [List.mem_cons, List.not_mem_nil, or_false] at hc; subst hc; exact ps1_call h), rfl, rfl, rn12_tf⟩
  | true, true => ⟨(E4.more (orcS [ps0])), (orcS_ok fun c hc args s h => by simp only [List.mem_cons, List.not_mem_nil, or_false] at hc; subst hc; exact ps0_call h), rfl, rfl, rn12_tt⟩
end
end Go.Proofs.YtdcioacjhpnihaaGreatDoor
namespace Go.Proofs.YtdcioacjhpnihaaGreatDoor
open Go
noncomputable section
set_option maxRecDepth 1000000 in
theorem rn13_ff : runR (E4.more (orcS [ps1])) fRen [(sF 3), (sT 7), .bool false, .bool false] (.bool true) = true := by kernel_rfl
set_option maxRecDepth 1000000 in
theorem rn13_ft : runR (E4.more (orcS [ps0])) fRen [(sF 3), (sT 7), .bool false, .bool true] (.bool true) = true := by kernel_rfl
set_option maxRecDepth 1000000 in
theorem rn13_tf : runR (E4.more (orcS [ps1])) fRen [(sF 3), (sT 7), .bool true, .bool false] (.bool true) = true := by kernel_rfl
set_option maxRecDepth 1000000 in
theorem rn13_tt : runR (E4.more (orcS [ps0])) fRen [(sF 3), (sT 7), .bool true, .bool true] (.bool true) = true := by kernel_rfl
theorem rn13 : ∀ ov th, ∃ E : Env, E.Ok ∧ E.P = Tryz.prog ∧ E.C.G = 8 ∧ runR E fRen [(sF 3), (sT 7), .bool ov, .bool th] (.bool true) = true
  | false, false => ⟨(E4.more (orcS [ps1])), (orcS_ok fun c hc args s h => by simp only [List.mem_cons, List.not_mem_nil, or_false] at hc; subst hc; exact ps1_call h), rfl, rfl, rn13_ff⟩
  | false, true => ⟨(E4.more (orcS [ps0])), (orcS_ok fun c hc args s h => by simp only [List.mem_cons, List.not_mem_nil, or_false] at hc; subst hc; exact ps0_call h), rfl, rfl, rn13_ft⟩
  | true, false => ⟨(E4.more (orcS [ps1])), (orcS_ok fun c hc args s h => by simp only [List.mem_cons, List.not_mem_nil, or_false] at hc; subst hc; exact ps1_call h), rfl, rfl, rn13_tf⟩
  | true, true => ⟨(E4.more (orcS [ps0])), (orcS_ok fun c hc args s h => by simp only [List.mem_cons, List.not_mem_nil, or_false] at hc; subst hc; exact ps0_call h), rfl, rfl, rn13_tt⟩
end
end Go.Proofs.YtdcioacjhpnihaaGreatDoor
namespace Go.Proofs.YtdcioacjhpnihaaGreatDoor
open Go
noncomputable section
set_option maxRecDepth 1000000 in
theorem rn14_ff : runR (E4.more (orcS [ps1])) fRen [la, la, .bool false, .bool false] (.bool true) = true := by kernel_rfl
set_option maxRecDepth 1000000 in
theorem rn14_ft : runR (E4.more (orcS [ps0])) fRen [la, la, .bool false, .bool true] (.bool true) = true := by kernel_rfl
set_option maxRecDepth 1000000 in
theorem rn14_tf : runR (E4.more (orcS [ps1])) fRen [la, la, .bool true, .bool false] (.bool true) = true := by kernel_rfl
set_option maxRecDepth 1000000 in
theorem rn14_tt : runR (E4.more (orcS [ps0])) fRen [la, la, .bool true, .bool true] (.bool true) = true := by kernel_rfl
theorem rn14 : ∀ ov th, ∃ E : Env, E.Ok ∧ E.P = Tryz.prog ∧ E.C.G = 8 ∧ runR E fRen [la, la, .bool ov, .bool th] (.bool true) = true
  | false, false => ⟨(E4.more (orcS [ps1])), (orcS_ok fun c hc args s h => by simp only [List.mem_cons, List.not_mem_nil, or_false] at hc; subst hc; exact ps1_call h), rfl, rfl, rn14_ff⟩
  | false, true => ⟨(E4.more (orcS [ps0])), (orcS_ok fun c hc args s h => by simp only [List.mem_cons, List.not_mem_nil, or_false] at hc; subst hc; exact ps0_call h), rfl, rfl, rn14_ft⟩
  | true, false => ⟨(E4.more (orcS [ps1])), (orcS_ok fun c hc args s h => by simp only [List.mem_cons, List.not_mem_nil, or_false] at hc; subst hc; exact ps1_call h), rfl, rfl, rn14_tf⟩
  | true, true => ⟨(E4.more (orcS [ps0])), (orcS_ok fun c hc args s h => by simp only [List.mem_cons, List.not_mem_nil, or_false] at hc; subst hc; exact ps0_call h), rfl, rfl, rn14_tt⟩
end
end Go.Proofs.YtdcioacjhpnihaaGreatDoor
