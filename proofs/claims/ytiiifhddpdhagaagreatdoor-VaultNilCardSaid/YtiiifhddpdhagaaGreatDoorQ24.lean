/- The run of wakes: it answers true; the tables stay. -/
import Derived.Test.YtiiifhddpdhagaaGreatDoorQ16
import Derived.Test.YtiiifhddpdhagaaGreatDoorQ17
import Derived.Test.YtiiifhddpdhagaaGreatDoorQ18
import Derived.Test.YtiiifhddpdhagaaGreatDoorQ19
import Derived.Test.YtiiifhddpdhagaaGreatDoorQ20
import Derived.Test.YtiiifhddpdhagaaGreatDoorQ21
import Derived.Test.YtiiifhddpdhagaaGreatDoorQ22
import Derived.Test.YtiiifhddpdhagaaGreatDoorQ23
set_option linter.all false
namespace Go.Proofs.YtiiifhddpdhagaaGreatDoor
open Go Go.RowKit
noncomputable section
def EvW : Env := E2.more (pieceOf [pc3, pc5, pc6, pc7, pc8, pc9, pc10, pc11, pc12, pc13, pc14, pc15])
theorem EvW_ok : EvW.Ok := pieces_more fun c hc args s h => by
  simp only [List.mem_cons, List.not_mem_nil, or_false] at hc
  rcases hc with rfl | rfl | rfl | rfl | rfl | rfl | rfl | rfl | rfl | rfl | rfl | rfl
  · exact pc3_call h
  · exact pc5_call h
  · exact pc6_call h
  · exact pc7_call h
  · exact pc8_call h
  · exact pc9_call h
  · exact pc10_call h
  · exact pc11_call h
  · exact pc12_call h
  · exact pc13_call h
  · exact pc14_call h
  · exact pc15_call h
set_option maxRecDepth 1000000 in
theorem wakesB_ok : runB EvW 4 [] (.bool true) = true := by kernel_rfl
theorem wakes_any (W : World) (h : TabW W) : Calls Tryz.prog 4 #[] W fun e w' => e = .returned (.bool true) ∧ Below W.heap.size W w' :=
  run_any (E := EvW) (args := []) EvW_ok rfl rfl wakesB_ok rfl rfl h
end
end Go.Proofs.YtiiifhddpdhagaaGreatDoor
