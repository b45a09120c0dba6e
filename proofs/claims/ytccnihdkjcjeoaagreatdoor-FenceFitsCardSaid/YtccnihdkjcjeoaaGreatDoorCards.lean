/-
  DERIVED. GIVEN WITH THE SEED: THE CARDS: each row of YtccnihdkjcjeoaaGreatDoorRows.lean that lists a variable, with what it lists TIED to the program's text (the seventh form; the later family's looks); each row that meets fmt, with fmt's text TOLD by the authors' own Lean function (tested against real Go, not proved from fmt's source: count such statements apart). THE CARD IS WHAT COUNTS. Prove the row's statement (the work); the ties are given (YtccnihdkjcjeoaaGreatDoorTie.lean); close each card by the builder's one call (the guide's Derived/Test/ToyasCard.lean, 'card_holds'). Laid BY PROGRAM, IN A SANDBOX (cutbox-door.mjs). By AI agents, Wed Nov 11 2026. No macro, syntax, notation, axiom, sorry.
-/
import Derived.Test.YtccnihdkjcjeoaaGreatDoorRows
import GoSem.ClaimSeven
namespace Go.Proofs.YtccnihdkjcjeoaaGreatDoor
namespace Rows

/-- THE TIED CARD OF 'armariumlaw39.FenceFits'. -/
def fenceFitsCard : Claim7 := { stood := { row := fenceFitsRow, standIns := [], harness := (true, "b0f0ca40402c1373c165a615ebd3bb93390c9d6ed671ab48f21c00d48669dbbf"), looks := false }, kinds := [], alts := [], laidByText := true, laidKinds := [.data, .data], laidTests := true, laidLooks := .later }
def FenceFitsCardSaid : Prop := Claim7.holds Tryz.pinned (.plain (OpenSpec.ofChange fenceFitsSpec)) fenceFitsCard

/-- THE SECOND FORM's CARD OF 'armariumlaw39.FenceFits'. -/
def fenceFitsUptoCard : Claim7 := { stood := { row := fenceFitsUptoRow, standIns := [], harness := (true, "b0f0ca40402c1373c165a615ebd3bb93390c9d6ed671ab48f21c00d48669dbbf"), looks := false }, kinds := [], alts := [], laidByText := true, laidKinds := [.data, .data], laidTests := true, laidLooks := .later }
def FenceFitsUptoCardSaid : Prop := Claim7.holds Tryz.pinned (.plain (OpenSpec.upto fenceFitsSpec)) fenceFitsUptoCard
end Rows
end Go.Proofs.YtccnihdkjcjeoaaGreatDoor
