/-
  DERIVED. GIVEN WITH THE SEED: THE CARDS: each row of YtnnfiicmplkakaaGreatDoorRows.lean that lists a variable, with what it lists TIED to the program's text (the seventh form; the later family's looks); each row that meets fmt, with fmt's text TOLD by the authors' own Lean function (tested against real Go, not proved from fmt's source: count such statements apart). THE CARD IS WHAT COUNTS. Prove the row's statement (the work); the ties are given (YtnnfiicmplkakaaGreatDoorTie.lean); close each card by the builder's one call (the guide's Derived/Test/ToyasCard.lean, 'card_holds'). Laid BY PROGRAM, IN A SANDBOX (cutbox-door.mjs). By AI agents, Wed Nov 11 2026. No macro, syntax, notation, axiom, sorry.
-/
import Derived.Test.YtnnfiicmplkakaaGreatDoorRows
import GoSem.ClaimSeven
namespace Go.Proofs.YtnnfiicmplkakaaGreatDoor
namespace Rows

/-- THE TIED CARD OF 'armariumlaw39.FenceBest'. -/
def fenceBestCard : Claim7 := { stood := { row := fenceBestRow, standIns := [], harness := (true, "5df5de242db94a6aa61fbd3b39361dd02ed1ac4f90ffad28172622a26bc531c3"), looks := true }, kinds := [], alts := [], laidByText := true, laidKinds := [.data, .data, .data, .pinned], laidTests := true, laidLooks := .later }
def FenceBestCardSaid : Prop := Claim7.holds Tryz.pinned (.plain (OpenSpec.ofChange fenceBestSpec)) fenceBestCard

/-- THE SECOND FORM's CARD OF 'armariumlaw39.FenceBest'. -/
def fenceBestUptoCard : Claim7 := { stood := { row := fenceBestUptoRow, standIns := [], harness := (true, "5df5de242db94a6aa61fbd3b39361dd02ed1ac4f90ffad28172622a26bc531c3"), looks := true }, kinds := [], alts := [], laidByText := true, laidKinds := [.data, .data, .data, .pinned], laidTests := true, laidLooks := .later }
def FenceBestUptoCardSaid : Prop := Claim7.holds Tryz.pinned (.plain (OpenSpec.upto fenceBestSpec)) fenceBestUptoCard
end Rows
end Go.Proofs.YtnnfiicmplkakaaGreatDoor
