/- Runs of RenameOne. -/
import Derived.Test.YtdcioacjhpnihaaGreatDoorQ30
import Derived.Test.YtdcioacjhpnihaaGreatDoorQ31
import Derived.Test.YtdcioacjhpnihaaGreatDoorQ32
set_option linter.all false
namespace Go.Proofs.YtdcioacjhpnihaaGreatDoor
open Go
noncomputable section
set_option maxRecDepth 1000000 in
theorem rn15_ff : runR E4 fRen [la, lb, .bool false, .bool false] (.bool true) = true := by kernel_rfl
set_option maxRecDepth 1000000 in
theorem rn15_ft : runR (E4.more (orcS [ps0])) fRen [la, lb, .bool false, .bool true] (.bool true) = true := by kernel_rfl
set_option maxRecDepth 1000000 in
theorem rn15_tf : runR E4 fRen [la, lb, .bool true, .bool false] (.bool true) = true := by kernel_rfl
set_option maxRecDepth 1000000 in
theorem rn15_tt : runR (E4.more (orcS [ps2])) fRen [la, lb, .bool true, .bool true] (.bool true) = true := by kernel_rfl
theorem rn15 : ∀ ov th, ∃ E : Env, E.Ok ∧ E.P = Tryz.prog ∧ E.C.G = 8 ∧ runR E fRen [la, lb, .bool ov, .bool th] (.bool true) = true
  | false, false => ⟨E4, E4_ok, rfl, rfl, rn15_ff⟩
  | false, true => ⟨(E4.more (orcS [ps0])), (orcS_ok fun c hc args s h => by simp only [List.mem_cons, List.not_mem_nil, or_false] at hc; subst hc; exact ps0_call h), rfl, rfl, rn15_ft⟩
  | true, false => ⟨E4, E4_ok, rfl, rfl, rn15_tf⟩
  | true, true => ⟨(E4.more (orcS [ps2])), (orcS_ok fun c hc args s h => by simp only [List.mem_cons, List.not_mem_nil, or_false] at hc; subst hc; exact ps2_call h), rfl, rfl, rn15_tt⟩
end
end Go.Proofs.YtdcioacjhpnihaaGreatDoor
