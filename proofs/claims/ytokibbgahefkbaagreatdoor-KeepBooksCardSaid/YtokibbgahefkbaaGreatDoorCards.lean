/-
  DERIVED. GIVEN WITH THE SEED: THE CARDS: each row of YtokibbgahefkbaaGreatDoorRows.lean that lists a variable, with what it lists TIED to the program's text (the seventh form; the later family's looks); each row that meets fmt, with fmt's text TOLD by the authors' own Lean function (tested against real Go, not proved from fmt's source: count such statements apart). THE CARD IS WHAT COUNTS. Prove the row's statement (the work); the ties are given (YtokibbgahefkbaaGreatDoorTie.lean); close each card by the builder's one call (the guide's Derived/Test/ToyasCard.lean, 'card_holds'). Laid BY PROGRAM, IN A SANDBOX (cutbox-door.mjs). By AI agents, Wed Nov 11 2026. No macro, syntax, notation, axiom, sorry.
-/
import Derived.Test.YtokibbgahefkbaaGreatDoorRows
import GoSem.ClaimSeven
namespace Go.Proofs.YtokibbgahefkbaaGreatDoor
namespace Rows

/-- THE TIED CARD OF 'armariumlaw41.KeepTakes'. -/
def keepTakesCard : Claim7 := { stood := { row := keepTakesRow, standIns := [], harness := (true, "c191dc5b0f04d7213836cf13cd0d773706452395a871330a13f7c182535a63c2"), looks := true }, kinds := [], alts := [], laidByText := true, laidKinds := [.data, .data, .data, .data, .data, .funcs, .pinned], laidTests := true, laidLooks := .later }
def KeepTakesCardSaid : Prop := Claim7.holds Tryz.pinned (.plain (OpenSpec.ofChange keepTakesSpec)) keepTakesCard

/-- THE TIED CARD OF 'armariumlaw41.KeepBooks'. -/
def keepBooksCard : Claim7 := { stood := { row := keepBooksRow, standIns := [], harness := (true, "c191dc5b0f04d7213836cf13cd0d773706452395a871330a13f7c182535a63c2"), looks := true }, kinds := [], alts := [], laidByText := true, laidKinds := [.data, .data, .data, .data, .data, .funcs, .pinned], laidTests := true, laidLooks := .later }
def KeepBooksCardSaid : Prop := Claim7.holds Tryz.pinned (.plain (OpenSpec.ofChange keepBooksSpec)) keepBooksCard

/-- THE TIED CARD OF 'armariumlaw41.KeepBack'. -/
def keepBackCard : Claim7 := { stood := { row := keepBackRow, standIns := [], harness := (true, "c191dc5b0f04d7213836cf13cd0d773706452395a871330a13f7c182535a63c2"), looks := true }, kinds := [], alts := [], laidByText := true, laidKinds := [.data, .data, .data, .data, .data, .funcs, .pinned], laidTests := true, laidLooks := .later }
def KeepBackCardSaid : Prop := Claim7.holds Tryz.pinned (.plain (OpenSpec.ofChange keepBackSpec)) keepBackCard

/-- THE SECOND FORM's CARD OF 'armariumlaw41.KeepTakes'. -/
def keepTakesUptoCard : Claim7 := { stood := { row := keepTakesUptoRow, standIns := [], harness := (true, "c191dc5b0f04d7213836cf13cd0d773706452395a871330a13f7c182535a63c2"), looks := true }, kinds := [], alts := [], laidByText := true, laidKinds := [.data, .data, .data, .data, .data, .funcs, .pinned], laidTests := true, laidLooks := .later }
def KeepTakesUptoCardSaid : Prop := Claim7.holds Tryz.pinned (.plain (OpenSpec.upto keepTakesSpec)) keepTakesUptoCard

/-- THE SECOND FORM's CARD OF 'armariumlaw41.KeepBooks'. -/
def keepBooksUptoCard : Claim7 := { stood := { row := keepBooksUptoRow, standIns := [], harness := (true, "c191dc5b0f04d7213836cf13cd0d773706452395a871330a13f7c182535a63c2"), looks := true }, kinds := [], alts := [], laidByText := true, laidKinds := [.data, .data, .data, .data, .data, .funcs, .pinned], laidTests := true, laidLooks := .later }
def KeepBooksUptoCardSaid : Prop := Claim7.holds Tryz.pinned (.plain (OpenSpec.upto keepBooksSpec)) keepBooksUptoCard

/-- THE SECOND FORM's CARD OF 'armariumlaw41.KeepBack'. -/
def keepBackUptoCard : Claim7 := { stood := { row := keepBackUptoRow, standIns := [], harness := (true, "c191dc5b0f04d7213836cf13cd0d773706452395a871330a13f7c182535a63c2"), looks := true }, kinds := [], alts := [], laidByText := true, laidKinds := [.data, .data, .data, .data, .data, .funcs, .pinned], laidTests := true, laidLooks := .later }
def KeepBackUptoCardSaid : Prop := Claim7.holds Tryz.pinned (.plain (OpenSpec.upto keepBackSpec)) keepBackUptoCard
end Rows
end Go.Proofs.YtokibbgahefkbaaGreatDoor
