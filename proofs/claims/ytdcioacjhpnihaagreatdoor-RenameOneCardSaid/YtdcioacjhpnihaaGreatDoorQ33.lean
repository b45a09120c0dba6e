/- Runs of RenameOne. Runs of RenameOne. Runs of RenameOne. Runs of RenameOne. Runs of RenameOne. Runs of RenameOne. Runs of RenameOne. Runs of RenameOne. Runs of RenameOne. Runs of RenameOne. -/
import Derived.Test.YtdcioacjhpnihaaGreatDoorQ30
import Derived.Test.YtdcioacjhpnihaaGreatDoorQ31
set_option linter.all false
namespace Go.Proofs.YtdcioacjhpnihaaGreatDoor
open Go
noncomputable section
set_option maxRecDepth 1000000 in
theorem rn0_ff : runR E4 fRen [(anyV 0), (anyV 0), .bool false, .bool false] (.bool true) = true := by kernel_rfl
set_option maxRecDepth 1000000 in
theorem rn0_ft : runR E4 fRen [(anyV 0), (anyV 0), .bool false, .bool true] (.bool true) = true := by kernel_rfl
set_option maxRecDepth 1000000 in
theorem rn0_tf : runR E4 fRen [(anyV 0), (anyV 0), .bool true, .bool false] (.bool true) = true := by kernel_rfl
set_option maxRecDepth 1000000 in
theorem rn0_tt : runR E4 fRen [(anyV 0), (anyV 0), .bool true, .bool true] (.bool true) = true := by kernel_rfl
theorem rn0 : ∀ ov th, ∃ E : Env, E.Ok ∧ E.P = Tryz.prog ∧ E.C.G = 8 ∧ runR E fRen [(anyV 0), (anyV 0), .bool ov, .bool th] (.bool true) = true
  | false, false => ⟨E4, E4_ok, rfl, rfl, rn0_ff⟩
  | false, true => ⟨E4, E4_ok, rfl, rfl, rn0_ft⟩
  | true, false => ⟨E4, E4_ok, rfl, rfl, rn0_tf⟩
  | true, true => ⟨E4, E4_ok, rfl, rfl, rn0_tt⟩
end
end Go.Proofs.YtdcioacjhpnihaaGreatDoor
namespace Go.Proofs.YtdcioacjhpnihaaGreatDoor
open Go
noncomputable section
set_option maxRecDepth 1000000 in
theorem rn1_ff : runR E4 fRen [(anyV 0), (anyV 1), .bool false, .bool false] (.bool true) = true := by kernel_rfl
set_option maxRecDepth 1000000 in
theorem rn1_ft : runR E4 fRen [(anyV 0), (anyV 1), .bool false, .bool true] (.bool true) = true := by kernel_rfl
set_option maxRecDepth 1000000 in
theorem rn1_tf : runR E4 fRen [(anyV 0), (anyV 1), .bool true, .bool false] (.bool true) = true := by kernel_rfl
set_option maxRecDepth 1000000 in
theorem rn1_tt : runR E4 fRen [(anyV 0), (anyV 1), .bool true, .bool true] (.bool true) = true := by kernel_rfl
theorem rn1 : ∀ ov th, ∃ E : Env, E.Ok ∧ E.P = Tryz.prog ∧ E.C.G = 8 ∧ runR E fRen [(anyV 0), (anyV 1), .bool ov, .bool th] (.bool true) = true
  | false, false => ⟨E4, E4_ok, rfl, rfl, rn1_ff⟩
  | false, true => ⟨E4, E4_ok, rfl, rfl, rn1_ft⟩
  | true, false => ⟨E4, E4_ok, rfl, rfl, rn1_tf⟩
  | true, true => ⟨E4, E4_ok, rfl, rfl, rn1_tt⟩
end
end Go.Proofs.YtdcioacjhpnihaaGreatDoor
namespace Go.Proofs.YtdcioacjhpnihaaGreatDoor
open Go
noncomputable section
set_option maxRecDepth 1000000 in
theorem rn2_ff : runR E4 fRen [(anyV 1), (anyV 0), .bool false, .bool false] (.bool true) = true := by kernel_rfl
set_option maxRecDepth 1000000 in
theorem rn2_ft : runR E4 fRen [(anyV 1), (anyV 0), .bool false, .bool true] (.bool true) = true := by kernel_rfl
set_option maxRecDepth 1000000 in
theorem rn2_tf : runR E4 fRen [(anyV 1), (anyV 0), .bool true, .bool false] (.bool true) = true := by kernel_rfl
set_option maxRecDepth 1000000 in
theorem rn2_tt : runR E4 fRen [(anyV 1), (anyV 0), .bool true, .bool true] (.bool true) = true := by kernel_rfl
theorem rn2 : ∀ ov th, ∃ E : Env, E.Ok ∧ E.P = Tryz.prog ∧ E.C.G = 8 ∧ runR E fRen [(anyV 1), (anyV 0), .bool ov, .bool th] (.bool true) = true
  | false, false => ⟨E4, E4_ok, rfl, rfl, rn2_ff⟩
  | false, true => ⟨E4, E4_ok, rfl, rfl, rn2_ft⟩
  | true, false => ⟨E4, E4_ok, rfl, rfl, rn2_tf⟩
  | true, true => ⟨E4, E4_ok, rfl, rfl, rn2_tt⟩
end
end Go.Proofs.YtdcioacjhpnihaaGreatDoor
namespace Go.Proofs.YtdcioacjhpnihaaGreatDoor
open Go
noncomputable section
set_option maxRecDepth 1000000 in
theorem rn3_ff : runR (E4.more (orcS [ps1])) fRen [(anyV 2), (anyV 1), .bool false, .bool false] (.bool true) = true := by kernel_rfl
set_option maxRecDepth 1000000 in
theorem rn3_ft : runR (E4.more (orcS [ps0])) fRen [(anyV 2), (anyV 1), .bool false, .bool true] (.bool true) = true := by kernel_rfl
set_option maxRecDepth 1000000 in
theorem rn3_tf : runR (E4.more (orcS [ps1])) fRen [(anyV 2), (anyV 1), .bool true, .bool false] (.bool true) = true := by kernel_rfl
set_option maxRecDepth 1000000 in
theorem rn3_tt : runR (E4.more (orcS [ps0])) fRen [(anyV 2), (anyV 1), .bool true, .bool true] (.bool true) = true := by kernel_rfl
theorem rn3 : ∀ ov th, ∃ E : Env, E.Ok ∧ E.P = Tryz.prog ∧ E.C.G = 8 ∧ runR E fRen [(anyV 2), (anyV 1), .bool ov, .bool th] (.bool true) = true
  | false, false => ⟨(E4.more (orcS [ps1])), (orcS_ok fun c hc args s h => by simp only [List.mem_cons, List.not_mem_nil, or_false] at hc; subst hc; exact ps1_call h), rfl, rfl, rn3_ff⟩
  | false, true => ⟨(E4.more (orcS [ps0])), (orcS_ok fun c hc args s h => by simp only [List.mem_cons, List.not_mem_nil, or_false] at hc; subst hc; exact ps0_call h), rfl, rfl, rn3_ft⟩
  | true, false => ⟨(E4.more (orcS [ps1])), (orcS_ok fun c hc args s h => by simp only [List.mem_cons, List.not_mem_nil, or_false] at hc; subst hc; exact ps1_call h), rfl, rfl, rn3_tf⟩
  | true, true => ⟨(E4.more (orcS [ps0])), (orcS_ok fun c hc args s h => by simp only [List.mem_cons, List.not_mem_nil, or_false] at hc; subst hc; exact ps0_call h), rfl, rfl, rn3_tt⟩
end
end Go.Proofs.YtdcioacjhpnihaaGreatDoor
namespace Go.Proofs.YtdcioacjhpnihaaGreatDoor
open Go
noncomputable section
set_option maxRecDepth 1000000 in
theorem rn4_ff : runR (E4.more (orcS [ps1])) fRen [(anyV 3), (anyV 2), .bool false, .bool false] (.bool true) = true := by kernel_rfl
set_option maxRecDepth 1000000 in
theorem rn4_ft : runR (E4.more (orcS [ps0])) fRen [(anyV 3), (anyV 2), .bool false, .bool true] (.bool true) = true := by kernel_rfl
set_option maxRecDepth 1000000 in
theorem rn4_tf : runR (E4.more (orcS [ps1])) fRen [(anyV 3), (anyV 2), .bool true, .bool false] (.bool true) = true := by kernel_rfl
set_option maxRecDepth 1000000 in
theorem rn4_tt : runR (E4.more (orcS [ps0])) fRen [(anyV 3), (anyV 2), .bool true, .bool true] (.bool true) = true := by kernel_rfl
theorem rn4 : ∀ ov th, ∃ E : Env, E.Ok ∧ E.P = Tryz.prog ∧ E.C.G = 8 ∧ runR E fRen [(anyV 3), (anyV 2), .bool ov, .bool th] (.bool true) = true
  | false, false => ⟨(E4.more (orcS [ps1])), (orcS_ok fun c hc args s h => by simp only [List.mem_cons, List.not_mem_nil, or_false] at hc; subst hc; exact ps1_call h), rfl, rfl, rn4_ff⟩
  | false, true => ⟨(E4.more (orcS [ps0])), (orcS_ok fun c hc args s h => by simp only [List.mem_cons, List.not_mem_nil, or_false] at hc; subst hc; exact ps0_call h), rfl, rfl, rn4_ft⟩
  | true, false => ⟨(E4.more (orcS [ps1])), (orcS_ok fun c hc args s h => by simp only [List.mem_cons, List.not_mem_nil, or_false] at hc; subst hc; exact ps1_call h), rfl, rfl, rn4_tf⟩
  | true, true => ⟨(E4.more (orcS [ps0])), (orcS_ok fun c hc args s h => by simp only [List.mem_cons, List.not_mem_nil, or_false] at hc; subst hc; exact ps0_call h), rfl, rfl, rn4_tt⟩
end
end Go.Proofs.YtdcioacjhpnihaaGreatDoor
namespace Go.Proofs.YtdcioacjhpnihaaGreatDoor
open Go
noncomputable section
set_option maxRecDepth 1000000 in
theorem rn5_ff : runR (E4.more (orcS [ps1])) fRen [(sF 0), la, .bool false, .bool false] (.bool true) = true := by kernel_rfl
set_option maxRecDepth 1000000 in
theorem rn5_ft : runR (E4.more (orcS [ps0])) fRen [(sF 0), la, .bool false, .bool true] (.bool true) = true := by kernel_rfl
set_option maxRecDepth 1000000 in
theorem rn5_tf : runR (E4.more (orcS [ps1])) fRen [(sF 0), la, .bool true, .bool false] (.bool true) = true := by kernel_rfl
set_option maxRecDepth 1000000 in
theorem rn5_tt : runR (E4.more (orcS [ps0])) fRen [(sF 0), la, .bool true, .bool true] (.bool true) = true := by kernel_rfl
theorem rn5 : ∀ ov th, ∃ E : Env, E.Ok ∧ E.P = Tryz.prog ∧ E.C.G = 8 ∧ runR E fRen [(sF 0), la, .bool ov, .bool th] (.bool true) = true
  | false, false => ⟨(E4.more (orcS [ps1])), (orcS_ok fun c hc args s h => by simp only [List.mem_cons, List.not_mem_nil, or_false] at hc; subst hc; exact ps1_call h), rfl, rfl, rn5_ff⟩
  | false, true => ⟨(E4.more (orcS [ps0])), (orcS_ok fun c hc args s h => by simp only [List.mem_cons, List.not_mem_nil, or_false] at hc; subst hc; exact ps0_call h), rfl, rfl, rn5_ft⟩
  | true, false => ⟨(E4.more (orcS [ps1])), (orcS_ok fun c hc args s h => by simp only [List.mem_cons, List.not_mem_nil, or_false] at hc; subst hc; exact ps1_call h), rfl, rfl, rn5_tf⟩
  | true, true => ⟨(E4.more (orcS [ps0])), (orcS_ok fun c hc args s h => by simp only [List.mem_cons, List.not_mem_nil, or_false] at hc; subst hc; exact ps0_call h), rfl, rfl, rn5_tt⟩
end
end Go.Proofs.YtdcioacjhpnihaaGreatDoor
namespace Go.Proofs.YtdcioacjhpnihaaGreatDoor
open Go
noncomputable section
set_option maxRecDepth 1000000 in
theorem rn6_ff : runR (E4.more (orcS [ps1])) fRen [(sF 0), lb, .bool false, .bool false] (.bool true) = true := by kernel_rfl
set_option maxRecDepth 1000000 in
theorem rn6_ft : runR (E4.more (orcS [ps0])) fRen [(sF 0), lb, .bool false, .bool true] (.bool true) = true := by kernel_rfl
set_option maxRecDepth 1000000 in
theorem rn6_tf : runR (E4.more (orcS [ps1])) fRen [(sF 0), lb, .bool true, .bool false] (.bool true) = true := by kernel_rfl
set_option maxRecDepth 1000000 in
theorem rn6_tt : runR (E4.more (orcS [ps0])) fRen [(sF 0), lb, .bool true, .bool true] (.bool true) = true := by kernel_rfl
theorem rn6 : ∀ ov th, ∃ E : Env, E.Ok ∧ E.P = Tryz.prog ∧ E.C.G = 8 ∧ runR E fRen [(sF 0), lb, .bool ov, .bool th] (.bool true) = true
  | false, false => ⟨(E4.more (orcS [ps1])), (orcS_ok fun c hc args s h => by simp only [List.mem_cons, List.not_mem_nil, or_false] at hc; subst hc; exact ps1_call h), rfl, rfl, rn6_ff⟩
  | false, true => ⟨(E4.more (orcS [ps0])), (orcS_ok fun c hc args s h => by simp only [List.mem_cons, List.not_mem_nil, or_false] at hc; subst hc; exact ps0_call h), rfl, rfl, rn6_ft⟩
  | true, false => ⟨(E4.more (orcS [ps1])), (orcS_ok fun c hc args s h => by simp only [List.mem_cons, List.not_mem_nil, or_false] at hc; subst hc; exact ps1_call h), rfl, rfl, rn6_tf⟩
  | true, true => ⟨(E4.more (orcS [ps0])), (orcS_ok fun c hc args s h => by simp only [List.mem_cons, List.not_mem_nil, or_false] at hc; subst hc; exact ps0_call h), rfl, rfl, rn6_tt⟩
end
end Go.Proofs.YtdcioacjhpnihaaGreatDoor
namespace Go.Proofs.YtdcioacjhpnihaaGreatDoor
open Go
noncomputable section
set_option maxRecDepth 1000000 in
theorem rn7_ff : runR (E4.more (orcS [ps1])) fRen [(sF 0), (sT 7), .bool false, .bool false] (.bool true) = true := by kernel_rfl
set_option maxRecDepth 1000000 in
theorem rn7_ft : runR (E4.more (orcS [ps0])) fRen [(sF 0), (sT 7), .bool false, .bool true] (.bool true) = true := by kernel_rfl
set_option maxRecDepth 1000000 in
theorem rn7_tf : runR (E4.more (orcS [ps1])) fRen [(sF 0), (sT 7), .bool true, .bool false] (.bool true) = true := by kernel_rfl
set_option maxRecDepth 1000000 in
theorem rn7_tt : runR (E4.more (orcS [ps0])) fRen [(sF 0), (sT 7), .bool true, .bool true] (.bool true) = true := by kernel_rfl
theorem rn7 : ∀ ov th, ∃ E : Env, E.Ok ∧ E.P = Tryz.prog ∧ E.C.G = 8 ∧ runR E fRen [(sF 0), (sT 7), .bool ov, .bool th] (.bool true) = true
  | false, false => ⟨(E4.more (orcS [ps1])), (orcS_ok fun c hc args s h => by simp only [List.mem_cons, List.not_mem_nil, or_false] at hc; subst hc; exact ps1_call h), rfl, rfl, rn7_ff⟩
  | false, true => ⟨(E4.more (orcS [ps0])), (orcS_ok fun c hc args s h => by simp only [List.mem_cons, List.not_mem_nil, or_false] at hc; subst hc; exact ps0_call h), rfl, rfl, rn7_ft⟩
  | true, false => ⟨(E4.more (orcS [ps1])), (orcS_ok fun c hc args s h => by simp only [List.mem_cons, List.not_mem_nil, or_false] at hc; subst hc; exact ps1_call h), rfl, rfl, rn7_tf⟩
  | true, true => ⟨(E4.more (orcS [ps0])), (orcS_ok fun c hc args s h => by simp only [List.mem_cons, List.not_mem_nil, or_false] at hc; subst hc; exact ps0_call h), rfl, rfl, rn7_tt⟩
end
end Go.Proofs.YtdcioacjhpnihaaGreatDoor
namespace Go.Proofs.YtdcioacjhpnihaaGreatDoor
open Go
noncomputable section
set_option maxRecDepth 1000000 in
theorem rn8_ff : runR (E4.more (orcS [ps1])) fRen [(sF 1), la, .bool false, .bool false] (.bool true) = true := by kernel_rfl
set_option maxRecDepth 1000000 in
theorem rn8_ft : runR (E4.more (orcS [ps0])) fRen [(sF 1), la, .bool false, .bool true] (.bool true) = true := by kernel_rfl
set_option maxRecDepth 1000000 in
theorem rn8_tf : runR (E4.more (orcS [ps1])) fRen [(sF 1), la, .bool true, .bool false] (.bool true) = true := by kernel_rfl
set_option maxRecDepth 1000000 in
theorem rn8_tt : runR (E4.more (orcS [ps0])) fRen [(sF 1), la, .bool true, .bool true] (.bool true) = true := by kernel_rfl
theorem rn8 : ∀ ov th, ∃ E : Env, E.Ok ∧ E.P = Tryz.prog ∧ E.C.G = 8 ∧ runR E fRen [(sF 1), la, .bool ov, .bool th] (.bool true) = true
  | false, false => ⟨(E4.more (orcS [ps1])), (orcS_ok fun c hc args s h => by simp only [List.mem_cons, List.not_mem_nil, or_false] at hc; subst hc; exact ps1_call h), rfl, rfl, rn8_ff⟩
  | false, true => ⟨(E4.more (orcS [ps0])), (orcS_ok fun c hc args s h => by simp only [List.mem_cons, List.not_mem_nil, or_false] at hc; subst hc; exact ps0_call h), rfl, rfl, rn8_ft⟩
  | true, false => ⟨(E4.more (orcS [ps1])), (orcS_ok fun c hc args s h => by simp only [List.mem_cons, List.not_mem_nil, or_false] at hc; subst hc; exact ps1_call h), rfl, rfl, rn8_tf⟩
  | true, true => ⟨(E4.more (orcS [ps0])), (orcS_ok fun c hc args s h => by simp only [List.mem_cons, List.not_mem_nil, or_false] at hc; subst hc; exact ps0_call h), rfl, rfl, rn8_tt⟩
end
end Go.Proofs.YtdcioacjhpnihaaGreatDoor
namespace Go.Proofs.YtdcioacjhpnihaaGreatDoor
open Go
noncomputable section
set_option maxRecDepth 1000000 in
theorem rn9_ff : runR (E4.more (orcS [ps1])) fRen [(sF 1), lb, .bool false, .bool false] (.bool true) = true := by kernel_rfl
set_option maxRecDepth 1000000 in
theorem rn9_ft : runR (E4.more (orcS [ps0])) fRen [(sF 1), lb, .bool false, .bool true] (.bool true) = true := by kernel_rfl
set_option maxRecDepth 1000000 in
theorem rn9_tf : runR (E4.more (orcS [ps1])) fRen [(sF 1), lb, .bool true, .bool false] (.bool true) = true := by kernel_rfl
set_option maxRecDepth 1000000 in
theorem rn9_tt : runR (E4.more (orcS [ps0])) fRen [(sF 1), lb, .bool true, .bool true] (.bool true) = true := by kernel_rfl
theorem rn9 : ∀ ov th, ∃ E : Env, E.Ok ∧ E.P = Tryz.prog ∧ E.C.G = 8 ∧ runR E fRen [(sF 1), lb, .bool ov, .bool th] (.bool true) = true
  | false, false => ⟨(E4.more (orcS [ps1])), (orcS_ok fun c hc args s h => by simp only [List.mem_cons, List.not_mem_nil, or_false] at hc; subst hc; exact ps1_call h), rfl, rfl, rn9_ff⟩
  | false, true => ⟨(E4.more (orcS [ps0])), (orcS_ok fun c hc args s h => by simp only [List.mem_cons, List.not_mem_nil, or_false] at hc; subst hc; exact ps0_call h), rfl, rfl, rn9_ft⟩
  | true, false => ⟨(E4.more (orcS [ps1])), (orcS_ok fun c hc args s h => by simp only [List.mem_cons, List.not_mem_nil, or_false] at hc; subst hc; exact ps1_call h), rfl, rfl, rn9_tf⟩
  | true, true => ⟨(E4.more (orcS [ps0])), (orcS_ok fun c hc args s h => by simp only [List.mem_cons, List.not_mem_nil, or_false] at hc; subst hc; exact ps0_call h), rfl, rfl, rn9_tt⟩
end
end Go.Proofs.YtdcioacjhpnihaaGreatDoor
