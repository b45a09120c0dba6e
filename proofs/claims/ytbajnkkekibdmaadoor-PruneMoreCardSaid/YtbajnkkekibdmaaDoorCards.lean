/-
  DERIVED. GIVEN WITH THE SEED: THE CARDS: each row of YtbajnkkekibdmaaDoorRows.lean that lists a variable, with what it lists TIED to the program's text (the seventh form; the later family's looks); each row that meets fmt, with fmt's text TOLD by the authors' own Lean function (tested against real Go, not proved from fmt's source: count such statements apart). THE CARD IS WHAT COUNTS. Prove the row's statement (the work); the ties are given (YtbajnkkekibdmaaDoorTie.lean); close each card by the builder's one call (the guide's Derived/Test/ToyasCard.lean, 'card_holds'). Laid BY PROGRAM, IN A SANDBOX (cutbox-door.mjs). By AI agents, Wed Nov 11 2026. No macro, syntax, notation, axiom, sorry.
-/
import Derived.Test.YtbajnkkekibdmaaDoorRows
import GoSem.ClaimSeven
namespace Go.Proofs.YtbajnkkekibdmaaDoor
namespace Rows

/-- THE TIED CARD OF 'armariumlaw32.PruneKeeps'. -/
def pruneKeepsCard : Claim7 := { stood := { row := pruneKeepsRow, standIns := [], harness := (true, "41c982e235ab8f5d46188528929c6f77d1f3dbcb9619d09b815d8e9ed26ade6e"), looks := false }, kinds := [], alts := [], laidByText := true, laidKinds := [.data, .pinned], laidTests := true, laidLooks := .later }
def PruneKeepsCardSaid : Prop := Claim7.holds Tryd.pinned (.plain (OpenSpec.ofChange pruneKeepsSpec)) pruneKeepsCard

/-- THE TIED CARD OF 'armariumlaw32.PruneAgain'. -/
def pruneAgainCard : Claim7 := { stood := { row := pruneAgainRow, standIns := [], harness := (true, "41c982e235ab8f5d46188528929c6f77d1f3dbcb9619d09b815d8e9ed26ade6e"), looks := false }, kinds := [], alts := [], laidByText := true, laidKinds := [.data, .pinned], laidTests := true, laidLooks := .later }
def PruneAgainCardSaid : Prop := Claim7.holds Tryd.pinned (.plain (OpenSpec.ofChange pruneAgainSpec)) pruneAgainCard

/-- THE TIED CARD OF 'armariumlaw32.PruneMore'. -/
def pruneMoreCard : Claim7 := { stood := { row := pruneMoreRow, standIns := [], harness := (true, "41c982e235ab8f5d46188528929c6f77d1f3dbcb9619d09b815d8e9ed26ade6e"), looks := false }, kinds := [], alts := [], laidByText := true, laidKinds := [.data, .pinned], laidTests := true, laidLooks := .later }
def PruneMoreCardSaid : Prop := Claim7.holds Tryd.pinned (.plain (OpenSpec.ofChange pruneMoreSpec)) pruneMoreCard

/-- THE SECOND FORM's CARD OF 'armariumlaw32.PruneKeeps'. -/
def pruneKeepsUptoCard : Claim7 := { stood := { row := pruneKeepsUptoRow, standIns := [], harness := (true, "41c982e235ab8f5d46188528929c6f77d1f3dbcb9619d09b815d8e9ed26ade6e"), looks := false }, kinds := [], alts := [], laidByText := true, laidKinds := [.data, .pinned], laidTests := true, laidLooks := .later }
def PruneKeepsUptoCardSaid : Prop := Claim7.holds Tryd.pinned (.plain (OpenSpec.upto pruneKeepsSpec)) pruneKeepsUptoCard

/-- THE SECOND FORM's CARD OF 'armariumlaw32.PruneAgain'. -/
def pruneAgainUptoCard : Claim7 := { stood := { row := pruneAgainUptoRow, standIns := [], harness := (true, "41c982e235ab8f5d46188528929c6f77d1f3dbcb9619d09b815d8e9ed26ade6e"), looks := false }, kinds := [], alts := [], laidByText := true, laidKinds := [.data, .pinned], laidTests := true, laidLooks := .later }
def PruneAgainUptoCardSaid : Prop := Claim7.holds Tryd.pinned (.plain (OpenSpec.upto pruneAgainSpec)) pruneAgainUptoCard

/-- THE SECOND FORM's CARD OF 'armariumlaw32.PruneMore'. -/
def pruneMoreUptoCard : Claim7 := { stood := { row := pruneMoreUptoRow, standIns := [], harness := (true, "41c982e235ab8f5d46188528929c6f77d1f3dbcb9619d09b815d8e9ed26ade6e"), looks := false }, kinds := [], alts := [], laidByText := true, laidKinds := [.data, .pinned], laidTests := true, laidLooks := .later }
def PruneMoreUptoCardSaid : Prop := Claim7.holds Tryd.pinned (.plain (OpenSpec.upto pruneMoreSpec)) pruneMoreUptoCard
end Rows
end Go.Proofs.YtbajnkkekibdmaaDoor
