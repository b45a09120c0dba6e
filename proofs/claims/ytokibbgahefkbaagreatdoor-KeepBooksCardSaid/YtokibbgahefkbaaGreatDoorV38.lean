/- The run of wakes: the map of functions in three orders. -/
import Derived.Test.YtokibbgahefkbaaGreatDoorV30
set_option linter.all false
namespace Go.Proofs.YtokibbgahefkbaaGreatDoor
open Go Go.RowKit
noncomputable section
set_option maxRecDepth 1000000 in
theorem wk21 (b:Nat→Nat) (c:Nat):runM EvWakes 6 [] (.bool true) (3,1,2,0) b c=(true,some (dsG 60),some (dsM (3,1,2,0) b c)):=by kernel_rfl
set_option maxRecDepth 1000000 in
theorem wk22 (b:Nat→Nat) (c:Nat):runM EvWakes 6 [] (.bool true) (3,2,0,1) b c=(true,some (dsG 60),some (dsM (3,2,0,1) b c)):=by kernel_rfl
set_option maxRecDepth 1000000 in
theorem wk23 (b:Nat→Nat) (c:Nat):runM EvWakes 6 [] (.bool true) (3,2,1,0) b c=(true,some (dsG 60),some (dsM (3,2,1,0) b c)):=by kernel_rfl
end
end Go.Proofs.YtokibbgahefkbaaGreatDoor
