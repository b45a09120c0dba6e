/- A piece of the run: armarium/plan.Run 33743 41555. A piece of the run: armarium/plan.Make 41556 44237. The run of armarium/armariumlaw47.wakes: it answers; the tables stay. A piece of the run: armarium/wal.Format 2249 3206. -/
import Derived.Test.YtjfdpdnmkoaolaaGreatDoorQ21
import Derived.Test.YtjfdpdnmkoaolaaGreatDoorQ32
import Derived.Test.YtjfdpdnmkoaolaaGreatDoorQ33
import Derived.Test.YtjfdpdnmkoaolaaGreatDoorQ23
import Derived.Test.YtjfdpdnmkoaolaaGreatDoorQ25
import Derived.Test.YtjfdpdnmkoaolaaGreatDoorQ26
import Derived.Test.YtjfdpdnmkoaolaaGreatDoorQ27
import Derived.Test.YtjfdpdnmkoaolaaGreatDoorQ28
import Derived.Test.YtjfdpdnmkoaolaaGreatDoorQ29
import Derived.Test.YtjfdpdnmkoaolaaGreatDoorQ31
set_option linter.all false
namespace Go.Proofs.YtjfdpdnmkoaolaaGreatDoor
open Go
noncomputable section
def pc17 : CE := ⟨6, [(Pt 6782 0), (I 9)], 33743, [(0, gFirst.2.obj),
 (1, gK.2.obj),
 (2, gBr),
 (4, gHalves.2.obj),
 (101, (.chan 429 ⟨([(Ag qr4), (Ag qr13), (Ag qr0), (Ag qr5), (Ag qr6), (Ag qr7), (Ag qr18), (Ag qr19), (Ag qr20), (Ag qr21), (Ag qr29), (Ag qr30), (Ag qr31), (Ag qr32), (Ag qr33), (Ag qr34), (Ag qr35), (Ag qr42), (Ag qr43), (Ag qr44), (Ag qr45), (Ag qr46), (Ag qr47), (Ag qr53), (Ag qr54), (Ag qr55), (Ag qr56), (Ag qr62), (Ag qr63), (Ag qr64), (Ag qr65), (Ag qr68), (Ag qr69), (Ag qr70), (Ag qr71), (Ag qr72), (Ag qr73)] ++ (List.replicate 61 (Ag qr0)) ++ [(Ag qr12)] ++ (List.replicate 64 (Ag qr0)) ++ [(Ag qr48)] ++ (List.replicate 18 (Ag qr0)))⟩ false 512 0 false)),
 (102, (.cells ⟨[(.int .i64 (.negSucc 0)), e0, (Sx 101 0 182 182), s0, ff, (U 120)]⟩ 184 (0, 0))),
 (6007, (.cells ⟨[(Pt 102 0), (U 3), (U 4), (I 96), (St [0, 64, 0, 4]), (I 1), (U 35), (I 31), ff]⟩ 368 (0, 0))),
 (6037, (.chan 0 ⟨[(Tu [(I 6), (Ag qr58)]), (Tu [(I 1), (Ag qr67)]), (Tu [(I 5), (Ag qr40)]), (Tu [(I 0), (Ag qr27)]), (Tu [(I 3), (Ag qr74)]), (Tu [(I 4), (Ag qr39)]), (Tu [(I 2), (Ag qr75)])]⟩ true 0 0 false)),
 (6038, (.chan 0 ⟨[(Tu [(I 6), tt]), (Tu [(I 1), tt]), (Tu [(I 5), tt]), (Tu [(I 0), tt]), (Tu [(I 3), tt]), (Tu [(I 4), tt]), (Tu [(I 2), tt])]⟩ true 0 0 false)),
 (6039, (.map ⟨[]⟩ 25)),
 (6040, (.cells ⟨[(Pt 6007 0), (Pt 102 0), (I 64), (St [0, 4]), (Mp 6037), (Mp 6038), (Mp 6039), ff]⟩ 276 (0, 0))),
 (6436, (.cells ⟨[(Pt 6040 0), (Pt 6040 0), (I 32), (I 4), (I 5), (Pt 6040 0), (I 32), (I 6), (I 4), (Pt 6040 0), (I 4), (I 4), (I 0), (Pt 6040 0), (I 17), (I 33), (I 0), (Pt 6040 0), (I 1), (I 1), (I 0), (Pt 6040 0), (I 32), (I 5), (I 0), (Pt 6040 0), (I 33), (I 4), (I 2), (Pt 6040 0), (I 2), (I 5), (I 3), ff, (I 0)]⟩ 208 (0, 0))),
 (6782, (.cells ⟨[(Pt 6436 0), (I 4)]⟩ 122 (0, 0)))], (Tu [(Ag [(I 1), (I 0), ff]), (I 0)]), 41555, [(0, gFirst.2.obj),
 (1, gK.2.obj),
 (2, gBr),
 (4, gHalves.2.obj),
 (101, (.chan 429 ⟨([(Ag qr4), (Ag qr13), (Ag qr0), (Ag qr5), (Ag qr6), (Ag qr7), (Ag qr18), (Ag qr19), (Ag qr20), (Ag qr21), (Ag qr29), (Ag qr30), (Ag qr31), (Ag qr32), (Ag qr33), (Ag qr34), (Ag qr35), (Ag qr42), (Ag qr43), (Ag qr44), (Ag qr45), (Ag qr46), (Ag qr47), (Ag qr53), (Ag qr54), (Ag qr55), (Ag qr56), (Ag qr62), (Ag qr63), (Ag qr64), (Ag qr65), (Ag qr68), (Ag qr69), (Ag qr70), (Ag qr71), (Ag qr72), (Ag qr73), (Ag qr77), (Ag qr78), (Ag qr79), (Ag qr80)] ++ (List.replicate 57 (Ag qr0)) ++ [(Ag qr12)] ++ (List.replicate 64 (Ag qr0)) ++ [(Ag qr48)] ++ (List.replicate 18 (Ag qr0)))⟩ false 512 0 false)),
 (102, (.cells ⟨[(.int .i64 (.negSucc 0)), e0, (Sx 101 0 182 182), s0, ff, (U 125)]⟩ 184 (0, 0))),
 (6007, (.cells ⟨[(Pt 102 0), (U 3), (U 4), (I 96), (St [0, 64, 0, 4]), (I 1), (U 39), (I 35), ff]⟩ 368 (0, 0))),
 (6037, (.chan 0 ⟨[(Tu [(I 6), (Ag qr58)]), (Tu [(I 5), (Ag qr40)]), (Tu [(I 4), (Ag qr39)]), (Tu [(I 2), (Ag qr75)]), (Tu [(I 0), (Ag qr81)]), (Tu [(I 3), (Ag qr82)]), (Tu [(I 1), (Ag qr83)])]⟩ true 0 0 false)),
 (6038, (.chan 0 ⟨[(Tu [(I 6), tt]), (Tu [(I 5), tt]), (Tu [(I 4), tt]), (Tu [(I 2), tt]), (Tu [(I 0), tt]), (Tu [(I 3), tt]), (Tu [(I 1), tt])]⟩ true 0 0 false)),
 (6039, (.map ⟨[]⟩ 28)),
 (6040, (.cells ⟨[(Pt 6007 0), (Pt 102 0), (I 64), (St [0, 4]), (Mp 6037), (Mp 6038), (Mp 6039), ff]⟩ 276 (0, 0))),
 (6436, (.cells ⟨[(Pt 6040 0), (Pt 6040 0), (I 32), (I 4), (I 0), (Pt 6040 0), (I 32), (I 6), (I 0), (Pt 6040 0), (I 4), (I 4), (I 0), (Pt 6040 0), (I 17), (I 33), (I 0), (Pt 6040 0), (I 1), (I 1), (I 0), (Pt 6040 0), (I 32), (I 5), (I 0), (Pt 6040 0), (I 33), (I 4), (I 0), (Pt 6040 0), (I 2), (I 5), (I 3), ff, (I 0)]⟩ 208 (0, 0))),
 (6782, (.cells ⟨[(Pt 6436 0), (I 4)]⟩ 122 (0, 0)))]⟩
def Ev17 : Env := E2.more (pieceOf [pc14, pc15, pc16])
theorem Ev17_ok : Ev17.Ok := pieces_more fun c hc args s h => by
  simp only [List.mem_cons, List.not_mem_nil, or_false] at hc
  rcases hc with rfl | rfl | rfl
  · exact pc14_call h
  · exact pc15_call h
  · exact pc16_call h
set_option maxRecDepth 1000000 in
theorem pc17_ok : pc17.good Ev17 1000000 = true := by kernel_rfl
theorem pc17_call {args : List Value} {s : AS} (h : pc17.is args s = true) : CallOk E2 pc17.f args s pc17.v (pc17.to s) := piece_ok (E := Ev17) Ev17_ok pc17_ok h
end
end Go.Proofs.YtjfdpdnmkoaolaaGreatDoor
namespace Go.Proofs.YtjfdpdnmkoaolaaGreatDoor
open Go
noncomputable section
def pc18 : CE := ⟨26, [(Pt 6823 0), (Ag [(I 1), (I 1)]), (I 5)], 41556, [(0, gFirst.2.obj),
 (1, gK.2.obj),
 (2, gBr),
 (4, gHalves.2.obj),
 (101, (.chan 429 ⟨([(Ag qr4), (Ag qr13), (Ag qr0), (Ag qr5), (Ag qr6), (Ag qr7), (Ag qr18), (Ag qr19), (Ag qr20), (Ag qr21), (Ag qr29), (Ag qr30), (Ag qr31), (Ag qr32), (Ag qr33), (Ag qr34), (Ag qr35), (Ag qr42), (Ag qr43), (Ag qr44), (Ag qr45), (Ag qr46), (Ag qr47), (Ag qr53), (Ag qr54), (Ag qr55), (Ag qr56), (Ag qr62), (Ag qr63), (Ag qr64), (Ag qr65), (Ag qr68), (Ag qr69), (Ag qr70), (Ag qr71), (Ag qr72), (Ag qr73), (Ag qr77), (Ag qr78), (Ag qr79), (Ag qr80)] ++ (List.replicate 57 (Ag qr0)) ++ [(Ag qr12)] ++ (List.replicate 64 (Ag qr0)) ++ [(Ag qr48)] ++ (List.replicate 18 (Ag qr0)))⟩ false 512 0 false)),
 (102, (.cells ⟨[(.int .i64 (.negSucc 0)), e0, (Sx 101 0 182 182), s0, ff, (U 125)]⟩ 184 (0, 0))),
 (6007, (.cells ⟨[(Pt 102 0), (U 3), (U 4), (I 96), (St [0, 64, 0, 4]), (I 1), (U 39), (I 35), ff]⟩ 368 (0, 0))),
 (6037, (.chan 0 ⟨[(Tu [(I 6), (Ag qr58)]), (Tu [(I 5), (Ag qr40)]), (Tu [(I 4), (Ag qr39)]), (Tu [(I 2), (Ag qr75)]), (Tu [(I 0), (Ag qr81)]), (Tu [(I 3), (Ag qr82)]), (Tu [(I 1), (Ag qr83)])]⟩ true 0 0 false)),
 (6038, (.chan 0 ⟨[(Tu [(I 6), tt]), (Tu [(I 5), tt]), (Tu [(I 4), tt]), (Tu [(I 2), tt]), (Tu [(I 0), tt]), (Tu [(I 3), tt]), (Tu [(I 1), tt])]⟩ true 0 0 false)),
 (6039, (.map ⟨[]⟩ 28)),
 (6040, (.cells ⟨[(Pt 6007 0), (Pt 102 0), (I 64), (St [0, 4]), (Mp 6037), (Mp 6038), (Mp 6039), ff]⟩ 276 (0, 0))),
 (6436, (.cells ⟨[(Pt 6040 0), (Pt 6040 0), (I 32), (I 4), (I 0), (Pt 6040 0), (I 32), (I 6), (I 0), (Pt 6040 0), (I 4), (I 4), (I 0), (Pt 6040 0), (I 17), (I 33), (I 0), (Pt 6040 0), (I 1), (I 1), (I 0), (Pt 6040 0), (I 32), (I 5), (I 0), (Pt 6040 0), (I 33), (I 4), (I 0), (Pt 6040 0), (I 2), (I 5), (I 3), ff, (I 0)]⟩ 208 (0, 0))),
 (6782, (.cells ⟨[(Pt 6436 0), (I 4)]⟩ 122 (0, 0))),
 (6823, (.cells ⟨[(Pt 6782 0)]⟩ 173 (0, 0)))], (Tu [(Ag [(I 0), (I 0), ff]), tt, (I 0)]), 44237, [(0, gFirst.2.obj),
 (1, gK.2.obj),
 (2, gBr),
 (4, gHalves.2.obj),
 (101, (.chan 429 ⟨([(Ag qr4), (Ag qr13), (Ag qr0), (Ag qr5), (Ag qr6), (Ag qr7), (Ag qr18), (Ag qr19), (Ag qr20), (Ag qr21), (Ag qr29), (Ag qr30), (Ag qr31), (Ag qr32), (Ag qr33), (Ag qr34), (Ag qr35), (Ag qr42), (Ag qr43), (Ag qr44), (Ag qr45), (Ag qr46), (Ag qr47), (Ag qr53), (Ag qr54), (Ag qr55), (Ag qr56), (Ag qr62), (Ag qr63), (Ag qr64), (Ag qr65), (Ag qr68), (Ag qr69), (Ag qr70), (Ag qr71), (Ag qr72), (Ag qr73), (Ag qr77), (Ag qr78), (Ag qr79), (Ag qr80)] ++ (List.replicate 57 (Ag qr0)) ++ [(Ag qr12)] ++ (List.replicate 64 (Ag qr0)) ++ [(Ag qr48)] ++ (List.replicate 18 (Ag qr0)))⟩ false 512 0 false)),
 (102, (.cells ⟨[(.int .i64 (.negSucc 0)), e0, (Sx 101 0 182 182), s0, ff, (U 125)]⟩ 184 (0, 0))),
 (6007, (.cells ⟨[(Pt 102 0), (U 3), (U 4), (I 96), (St [0, 64, 0, 4]), (I 1), (U 39), (I 35), ff]⟩ 368 (0, 0))),
 (6037, (.chan 0 ⟨[(Tu [(I 6), (Ag qr58)]), (Tu [(I 5), (Ag qr40)]), (Tu [(I 4), (Ag qr39)]), (Tu [(I 2), (Ag qr75)]), (Tu [(I 0), (Ag qr81)]), (Tu [(I 3), (Ag qr82)]), (Tu [(I 1), (Ag qr83)])]⟩ true 0 0 false)),
 (6038, (.chan 0 ⟨[(Tu [(I 6), tt]), (Tu [(I 5), tt]), (Tu [(I 4), tt]), (Tu [(I 2), tt]), (Tu [(I 0), tt]), (Tu [(I 3), tt]), (Tu [(I 1), tt])]⟩ true 0 0 false)),
 (6039, (.map ⟨[]⟩ 28)),
 (6040, (.cells ⟨[(Pt 6007 0), (Pt 102 0), (I 64), (St [0, 4]), (Mp 6037), (Mp 6038), (Mp 6039), ff]⟩ 276 (0, 0))),
 (6436, (.cells ⟨[(Pt 6040 0), (Pt 6040 0), (I 32), (I 4), (I 0), (Pt 6040 0), (I 32), (I 6), (I 0), (Pt 6040 0), (I 4), (I 4), (I 0), (Pt 6040 0), (I 17), (I 33), (I 0), (Pt 6040 0), (I 1), (I 1), (I 0), (Pt 6040 0), (I 32), (I 5), (I 0), (Pt 6040 0), (I 33), (I 4), (I 0), (Pt 6040 0), (I 2), (I 5), (I 3), ff, (I 0)]⟩ 208 (0, 0))),
 (6782, (.cells ⟨[(Pt 6436 0), (I 4)]⟩ 122 (0, 0))),
 (6823, (.cells ⟨[(Pt 6782 0)]⟩ 173 (0, 0)))]⟩
set_option maxRecDepth 1000000 in
theorem pc18_ok : pc18.good E2 1000000 = true := by kernel_rfl
theorem pc18_call {args : List Value} {s : AS} (h : pc18.is args s = true) : CallOk E2 pc18.f args s pc18.v (pc18.to s) := piece_ok (E := E2) E2_ok pc18_ok h
end
end Go.Proofs.YtjfdpdnmkoaolaaGreatDoor
namespace Go.Proofs.YtjfdpdnmkoaolaaGreatDoor
open Go Go.RowKit
noncomputable section
def EvWakes : Env := E2.more (pieceOf [pc3, pc5, pc6, pc7, pc8, pc9, pc10, pc11, pc13, pc17, pc18])
theorem EvWakes_ok : EvWakes.Ok := pieces_more fun c hc args s h => by
  simp only [List.mem_cons, List.not_mem_nil, or_false] at hc
  rcases hc with rfl | rfl | rfl | rfl | rfl | rfl | rfl | rfl | rfl | rfl | rfl
  · exact pc3_call h
  · exact pc5_call h
  · exact pc6_call h
  · exact pc7_call h
  · exact pc8_call h
  · exact pc9_call h
  · exact pc10_call h
  · exact pc11_call h
  · exact pc13_call h
  · exact pc17_call h
  · exact pc18_call h
set_option maxRecDepth 1000000 in
theorem wakesB_ok : runB EvWakes 8 [] (.bool true) = true := by kernel_rfl
theorem wakes_any (W : World) (h : TabW W) : Calls Tryz.prog 8 #[] W fun e w' => e = .returned (.bool true) ∧ Below W.heap.size W w' :=
  run_any (E := EvWakes) (args := []) EvWakes_ok rfl rfl wakesB_ok rfl rfl h
end
end Go.Proofs.YtjfdpdnmkoaolaaGreatDoor
namespace Go.Proofs.YtjfdpdnmkoaolaaGreatDoor
open Go
noncomputable section
def pc19 : CE := ⟨188, [(Pt 101 0), (I 96), (St [0, 64, 0, 3])], 2249, [(0, gFirst.2.obj),
 (1, gK.2.obj),
 (2, gBr),
 (4, gHalves.2.obj),
 (100, (.chan 429 ⟨((List.replicate 98 (Ag qr0)) ++ [(Ag qr2)] ++ (List.replicate 78 (Ag qr0)))⟩ false 512 0 false)),
 (101, (.cells ⟨[(.int .i64 (.negSucc 0)), e0, (Sx 100 0 177 177), s0, ff, (U 65)]⟩ 184 (0, 0)))], (I 0), 3206, [(0, gFirst.2.obj),
 (1, gK.2.obj),
 (2, gBr),
 (4, gHalves.2.obj),
 (100, (.chan 429 ⟨([(Ag qr0), (Ag qr84)] ++ (List.replicate 96 (Ag qr0)) ++ [(Ag qr2)] ++ (List.replicate 78 (Ag qr0)))⟩ false 512 0 false)),
 (101, (.cells ⟨[(.int .i64 (.negSucc 0)), e0, (Sx 100 0 177 177), s0, ff, (U 67)]⟩ 184 (0, 0)))]⟩
set_option maxRecDepth 1000000 in
theorem pc19_ok : pc19.good E2 1000000 = true := by kernel_rfl
theorem pc19_call {args : List Value} {s : AS} (h : pc19.is args s = true) : CallOk E2 pc19.f args s pc19.v (pc19.to s) := piece_ok (E := E2) E2_ok pc19_ok h
end
end Go.Proofs.YtjfdpdnmkoaolaaGreatDoor
