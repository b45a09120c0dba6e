/-
  DERIVED. GIVEN WITH THE SEED: THE CARDS: each row of YtgleieifinfcdaaGreatDoorRows.lean that lists a variable, with what it lists TIED to the program's text (the seventh form; the later family's looks); each row that meets fmt, with fmt's text TOLD by the authors' own Lean function (tested against real Go, not proved from fmt's source: count such statements apart). THE CARD IS WHAT COUNTS. Prove the row's statement (the work); the ties are given (YtgleieifinfcdaaGreatDoorTie.lean); close each card by the builder's one call (the guide's Derived/Test/ToyasCard.lean, 'card_holds'). Laid BY PROGRAM, IN A SANDBOX (cutbox-door.mjs). By AI agents, Wed Nov 11 2026. No macro, syntax, notation, axiom, sorry.
-/
import Derived.Test.YtgleieifinfcdaaGreatDoorRows
import GoSem.ClaimSeven
namespace Go.Proofs.YtgleieifinfcdaaGreatDoor
namespace Rows

/-- THE TIED CARD OF 'armariumlaw22.SnapNil'. -/
def snapNilCard : Claim7 := { stood := { row := snapNilRow, standIns := [], harness := (true, "89b478f537234d30a0c6580eff52a4e58718366a8784d36d8d1a242722253cbb"), looks := true }, kinds := [], alts := [], laidByText := true, laidKinds := [.data, .data, .data, .data, .data, .pinned], laidTests := true, laidLooks := .later }
def SnapNilCardSaid : Prop := Claim7.holds Tryz.pinned (.plain (OpenSpec.ofChange snapNilSpec)) snapNilCard

/-- THE SECOND FORM's CARD OF 'armariumlaw22.SnapNil'. -/
def snapNilUptoCard : Claim7 := { stood := { row := snapNilUptoRow, standIns := [], harness := (true, "89b478f537234d30a0c6580eff52a4e58718366a8784d36d8d1a242722253cbb"), looks := true }, kinds := [], alts := [], laidByText := true, laidKinds := [.data, .data, .data, .data, .data, .pinned], laidTests := true, laidLooks := .later }
def SnapNilUptoCardSaid : Prop := Claim7.holds Tryz.pinned (.plain (OpenSpec.upto snapNilSpec)) snapNilUptoCard
end Rows
end Go.Proofs.YtgleieifinfcdaaGreatDoor
