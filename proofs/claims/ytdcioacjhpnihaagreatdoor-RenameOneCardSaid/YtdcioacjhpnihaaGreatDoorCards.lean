/-
  DERIVED. GIVEN WITH THE SEED: THE CARDS: each row of YtdcioacjhpnihaaGreatDoorRows.lean that lists a variable, with what it lists TIED to the program's text (the seventh form; the later family's looks); each row that meets fmt, with fmt's text TOLD by the authors' own Lean function (tested against real Go, not proved from fmt's source: count such statements apart). THE CARD IS WHAT COUNTS. Prove the row's statement (the work); the ties are given (YtdcioacjhpnihaaGreatDoorTie.lean); close each card by the builder's one call (the guide's Derived/Test/ToyasCard.lean, 'card_holds'). Laid BY PROGRAM, IN A SANDBOX (cutbox-door.mjs). By AI agents, Wed Nov 11 2026. No macro, syntax, notation, axiom, sorry.
-/
import Derived.Test.YtdcioacjhpnihaaGreatDoorRows
import GoSem.ClaimSeven
namespace Go.Proofs.YtdcioacjhpnihaaGreatDoor
namespace Rows

/-- THE TIED CARD OF 'armariumlaw40.RenameOne'. -/
def renameOneCard : Claim7 := { stood := { row := renameOneRow, standIns := [], harness := (true, "921c5bd451b9e2fb06fbaf436b9127e057bbfc7a87e2dd516d5bb2aa4560d54d"), looks := true }, kinds := [], alts := [], laidByText := true, laidKinds := [.data, .data, .data, .data, .data, .funcs, .pinned], laidTests := true, laidLooks := .later }
def RenameOneCardSaid : Prop := Claim7.holds Tryz.pinned (.plain (OpenSpec.ofChange renameOneSpec)) renameOneCard

/-- THE SECOND FORM's CARD OF 'armariumlaw40.RenameOne'. -/
def renameOneUptoCard : Claim7 := { stood := { row := renameOneUptoRow, standIns := [], harness := (true, "921c5bd451b9e2fb06fbaf436b9127e057bbfc7a87e2dd516d5bb2aa4560d54d"), looks := true }, kinds := [], alts := [], laidByText := true, laidKinds := [.data, .data, .data, .data, .data, .funcs, .pinned], laidTests := true, laidLooks := .later }
def RenameOneUptoCardSaid : Prop := Claim7.holds Tryz.pinned (.plain (OpenSpec.upto renameOneSpec)) renameOneUptoCard
end Rows
end Go.Proofs.YtdcioacjhpnihaaGreatDoor
