/-
  DERIVED. GIVEN WITH THE SEED: THE CARDS: each row of YtjfdpdnmkoaolaaGreatDoorRows.lean that lists a variable, with what it lists TIED to the program's text (the seventh form; the later family's looks); each row that meets fmt, with fmt's text TOLD by the authors' own Lean function (tested against real Go, not proved from fmt's source: count such statements apart). THE CARD IS WHAT COUNTS. Prove the row's statement (the work); the ties are given (YtjfdpdnmkoaolaaGreatDoorTie.lean); close each card by the builder's one call (the guide's Derived/Test/ToyasCard.lean, 'card_holds'). Laid BY PROGRAM, IN A SANDBOX (cutbox-door.mjs). By AI agents, Wed Nov 11 2026. No macro, syntax, notation, axiom, sorry.
-/
import Derived.Test.YtjfdpdnmkoaolaaGreatDoorRows
import GoSem.ClaimSeven
namespace Go.Proofs.YtjfdpdnmkoaolaaGreatDoor
namespace Rows

/-- THE TIED CARD OF 'armariumlaw47.PlanNil'. -/
def planNilCard : Claim7 := { stood := { row := planNilRow, standIns := [], harness := (true, "2d5d9784928cecedd8dc922be2f004dc539869966b335099216888901234ee89"), looks := true }, kinds := [], alts := [], laidByText := true, laidKinds := [.data, .data, .data, .data, .data, .pinned], laidTests := true, laidLooks := .later }
def PlanNilCardSaid : Prop := Claim7.holds Tryz.pinned (.plain (OpenSpec.ofChange planNilSpec)) planNilCard

/-- THE SECOND FORM's CARD OF 'armariumlaw47.PlanNil'. -/
def planNilUptoCard : Claim7 := { stood := { row := planNilUptoRow, standIns := [], harness := (true, "2d5d9784928cecedd8dc922be2f004dc539869966b335099216888901234ee89"), looks := true }, kinds := [], alts := [], laidByText := true, laidKinds := [.data, .data, .data, .data, .data, .pinned], laidTests := true, laidLooks := .later }
def PlanNilUptoCardSaid : Prop := Claim7.holds Tryz.pinned (.plain (OpenSpec.upto planNilSpec)) planNilUptoCard
end Rows
end Go.Proofs.YtjfdpdnmkoaolaaGreatDoor
