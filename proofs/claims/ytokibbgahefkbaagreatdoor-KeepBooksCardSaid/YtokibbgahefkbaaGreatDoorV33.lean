/- The run of wakes: the map of functions in three orders. -/
import Derived.Test.YtokibbgahefkbaaGreatDoorV30
set_option linter.all false
namespace Go.Proofs.YtokibbgahefkbaaGreatDoor
open Go Go.RowKit
noncomputable section
set_option maxRecDepth 1000000 in
theorem wk6 (b:Nat→Nat) (c:Nat):runM EvWakes 6 [] (.bool true) (1,0,2,3) b c=(true,some (dsG 60),some (dsM (1,0,2,3) b c)):=by kernel_rfl
set_option maxRecDepth 1000000 in
theorem wk7 (b:Nat→Nat) (c:Nat):runM EvWakes 6 [] (.bool true) (1,0,3,2) b c=(true,some (dsG 60),some (dsM (1,0,3,2) b c)):=by kernel_rfl
set_option maxRecDepth 1000000 in
theorem wk8 (b:Nat→Nat) (c:Nat):runM EvWakes 6 [] (.bool true) (1,2,0,3) b c=(true,some (dsG 60),some (dsM (1,2,0,3) b c)):=by kernel_rfl
end
end Go.Proofs.YtokibbgahefkbaaGreatDoor
