/- The run of armarium/armariumlaw41.wakes: it answers, in whatever order the map of functions lies; the tables stay. -/
import Derived.Test.YtokibbgahefkbaaGreatDoorV31
import Derived.Test.YtokibbgahefkbaaGreatDoorV32
import Derived.Test.YtokibbgahefkbaaGreatDoorV33
import Derived.Test.YtokibbgahefkbaaGreatDoorV34
import Derived.Test.YtokibbgahefkbaaGreatDoorV35
import Derived.Test.YtokibbgahefkbaaGreatDoorV36
import Derived.Test.YtokibbgahefkbaaGreatDoorV37
import Derived.Test.YtokibbgahefkbaaGreatDoorV38
set_option linter.all false
namespace Go.Proofs.YtokibbgahefkbaaGreatDoor
open Go Go.RowKit
noncomputable section
theorem wakesB_ok (q:Q) (hq:q∈qs) (b:Nat→Nat) (c:Nat):runM EvWakes 6 [] (.bool true) q b c=(true,some (dsG 60),some (dsM q b c)):=by
 unfold qs at hq
 simp only [List.mem_cons,List.not_mem_nil,or_false] at hq
 rcases hq with rfl |rfl |rfl |rfl |rfl |rfl |rfl |rfl |rfl |rfl |rfl |rfl |rfl |rfl |rfl |rfl |rfl |rfl |rfl |rfl |rfl |rfl |rfl |rfl
 ·exact wk0 b c
 ·exact wk1 b c
 ·exact wk2 b c
 ·exact wk3 b c
 ·exact wk4 b c
 ·exact wk5 b c
 ·exact wk6 b c
 ·exact wk7 b c
 ·exact wk8 b c
 ·exact wk9 b c
 ·exact wk10 b c
 ·exact wk11 b c
 ·exact wk12 b c
 ·exact wk13 b c
 ·exact wk14 b c
 ·exact wk15 b c
 ·exact wk16 b c
 ·exact wk17 b c
 ·exact wk18 b c
 ·exact wk19 b c
 ·exact wk20 b c
 ·exact wk21 b c
 ·exact wk22 b c
 ·exact wk23 b c
theorem wakes_any (W:World) (h:TabW W):Calls Tryz.prog 6 #[] W fun e w'=>e= .returned (.bool true)∧Below W.heap.size W w':=
 run_any (E:=EvWakes) (args:= []) EvWakes_ok rfl rfl (fun q hq b c=>wakesB_ok q hq b c) rfl rfl h
end
end Go.Proofs.YtokibbgahefkbaaGreatDoor
