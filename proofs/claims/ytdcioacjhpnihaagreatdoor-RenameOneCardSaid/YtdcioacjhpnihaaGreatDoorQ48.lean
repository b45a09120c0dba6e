/- What the row says of the program, by parts: 9. What the row says of the program, by parts: no function starts a goroutine. -/
import Derived.Test.YtdcioacjhpnihaaGreatDoorCards
import Derived.Test.YtdcioacjhpnihaaGreatDoorTie
import Derived.JoinedOf
import Derived.JoinedCond
set_option linter.all false
namespace Go.Proofs.YtdcioacjhpnihaaGreatDoor
open Go
set_option maxRecDepth 100000
theorem jwf : Rows.renameOneRow.wfByText (OpenSpec.ofChange Rows.renameOneSpec) = true := by kernel_rfl
theorem jmain : Tryz.pinned.checked.prog.mainIs = some ((true, "921c5bd451b9e2fb06fbaf436b9127e057bbfc7a87e2dd516d5bb2aa4560d54d").1, (true, "921c5bd451b9e2fb06fbaf436b9127e057bbfc7a87e2dd516d5bb2aa4560d54d").2.toList) := by kernel_rfl
theorem jlooks : true = Tryz.pinned.checked.prog.looks [] := by kernel_rfl
theorem jfn : Tryz.pinned.checked.prog.funcNamed "armarium/armariumlaw40.RenameOne" = some 3 := by kernel_rfl
end Go.Proofs.YtdcioacjhpnihaaGreatDoor
namespace Go.Proofs.YtdcioacjhpnihaaGreatDoor
open Go
set_option maxRecDepth 100000
theorem jg : Tryz.prog.funcs.any Func.goes = false := by kernel_rfl
theorem jg_at (g : FuncId) : (Tryz.prog.funcs[g]?).any Func.goes = false := by
  cases hg : Tryz.prog.funcs[g]? with
  | none => rfl
  | some fn =>
    show Func.goes fn = false
    cases hf : Func.goes fn with
    | false => rfl
    | true =>
      obtain ⟨hi, he⟩ := Array.getElem?_eq_some_iff.1 hg
      have h : Tryz.prog.funcs.any Func.goes = true := Array.any_eq_true.2 ⟨g, hi, by rw [he, hf]⟩
      rw [jg] at h
      cases h
theorem jgoes3 : Tryz.prog.goes 3 = false := by
  unfold Program.goes
  rw [jg, Bool.and_false, Bool.or_false]
  simp only [jg_at]
  simp
theorem jgoes : false = Rows.renameOneRow.goesBy Tryz.pinned.checked.prog := by
  show false = Tryz.prog.goesAt .entering "armarium/armariumlaw40.RenameOne"
  unfold Program.goesAt Program.goesFrom
  have h1 : Tryz.prog.funcNamed "armarium/armariumlaw40.RenameOne" = some 3 := jfn
  rw [h1, Option.any_some, jgoes3]
  rfl
end Go.Proofs.YtdcioacjhpnihaaGreatDoor
