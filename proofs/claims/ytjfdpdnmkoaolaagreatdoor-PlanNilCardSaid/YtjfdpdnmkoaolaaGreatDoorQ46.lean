/- What the row says of the program, by parts: no function starts a goroutine. -/
import Derived.Test.YtjfdpdnmkoaolaaGreatDoorCards
import Derived.Test.YtjfdpdnmkoaolaaGreatDoorTie
import Derived.Test.YtjfdpdnmkoaolaaGreatDoorQ45
set_option linter.all false
namespace Go.Proofs.YtjfdpdnmkoaolaaGreatDoor
open Go
set_option maxRecDepth 100000
theorem jg : Tryz.prog.funcs.any Func.goes = false := by kernel_rfl
theorem jg_at (g : FuncId) : (Tryz.prog.funcs[g]?).any Func.goes = false := by
  cases hg : Tryz.prog.funcs[g]? with
  | none => rfl
  | some fn =>
    show Func.goes fn = false
    cases hf : Func.goes fn with
    | false => rfl
    | true =>
      obtain ⟨hi, he⟩ := Array.getElem?_eq_some_iff.1 hg
      have h : Tryz.prog.funcs.any Func.goes = true := Array.any_eq_true.2 ⟨g, hi, by rw [he, hf]⟩
      rw [jg] at h
      cases h
theorem jgoes3 : Tryz.prog.goes 3 = false := by
  unfold Program.goes
  rw [jg, Bool.and_false, Bool.or_false]
  simp only [jg_at]
  simp
theorem jgoes : false = Rows.planNilRow.goesBy Tryz.pinned.checked.prog := by
  show false = Tryz.prog.goesAt .entering "armarium/armariumlaw47.PlanNil"
  unfold Program.goesAt Program.goesFrom
  have h1 : Tryz.prog.funcNamed "armarium/armariumlaw47.PlanNil" = some 3 := jfn
  rw [h1, Option.any_some, jgoes3]
  rfl
end Go.Proofs.YtjfdpdnmkoaolaaGreatDoor
