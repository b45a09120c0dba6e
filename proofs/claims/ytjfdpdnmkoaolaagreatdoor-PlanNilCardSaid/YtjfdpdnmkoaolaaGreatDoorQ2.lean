/- Which types are numbers or strings, which are rows of bytes (by the seat's numbers; printed by a program: it only sorts operations, nothing is believed of it). -/
import Derived.CallsIn
set_option linter.all false
namespace Go.Proofs.YtjfdpdnmkoaolaaGreatDoor
open Go
noncomputable section
def scalT (t : TypeId) : Bool := ([2, 3, 5, 6, 9, 10, 11, 12, 21, 27, 54, 182, 278, 561, 581, 602, 603, 605, 606] : List Nat).contains t
def bslT (t : TypeId) : Bool := ([191] : List Nat).contains t
/-- destinations of conversions to bytes that a load of the same region looks at -/
def effD (d : Option Tmp) : Bool := match d with
  | some k => ([20, 36] : List Nat).contains k
  | none => false
end
end Go.Proofs.YtjfdpdnmkoaolaaGreatDoor
