/- The run of armarium/armariumlaw22.wakes: it answers; the tables stay. A piece of the run: armarium/wal.Format 2249 3206. A piece of the run: armarium/pages.Format 123 3206. A piece of the run: armarium/wal.Open 3206 4006. -/
import Derived.Test.YtgleieifinfcdaaGreatDoorQ18
import Derived.Test.YtgleieifinfcdaaGreatDoorQ20
import Derived.Test.YtgleieifinfcdaaGreatDoorQ22
import Derived.Test.YtgleieifinfcdaaGreatDoorQ23
import Derived.Test.YtgleieifinfcdaaGreatDoorQ24
import Derived.Test.YtgleieifinfcdaaGreatDoorQ25
import Derived.Test.YtgleieifinfcdaaGreatDoorQ26
import Derived.Test.YtgleieifinfcdaaGreatDoorQ27
import Derived.Test.YtgleieifinfcdaaGreatDoorQ28
import Derived.Test.YtgleieifinfcdaaGreatDoorQ29
import Derived.Test.YtgleieifinfcdaaGreatDoorQ30
set_option linter.all false
namespace Go.Proofs.YtgleieifinfcdaaGreatDoor
open Go Go.RowKit
noncomputable section
def EvWakes : Env := E2.more (pieceOf [pc3, pc5, pc6, pc7, pc8, pc9, pc10, pc11, pc12, pc13, pc14, pc15, pc16, pc17, pc19])
theorem EvWakes_ok : EvWakes.Ok := pieces_more fun c hc args s h => by
  simp only [List.mem_cons, List.not_mem_nil, or_false] at hc
  rcases hc with rfl | rfl | rfl | rfl | rfl | rfl | rfl | rfl | rfl | rfl | rfl | rfl | rfl | rfl | rfl
  · exact pc3_call h
  · exact pc5_call h
  · exact pc6_call h
  · exact pc7_call h
  · exact pc8_call h
  · exact pc9_call h
  · exact pc10_call h
  · exact pc11_call h
  · exact pc12_call h
  · exact pc13_call h
  · exact pc14_call h
  · exact pc15_call h
  · exact pc16_call h
  · exact pc17_call h
  · exact pc19_call h
set_option maxRecDepth 1000000 in
theorem wakesB_ok : runB EvWakes 4 [] (.bool true) = true := by kernel_rfl
theorem wakes_any (W : World) (h : TabW W) : Calls Tryz.prog 4 #[] W fun e w' => e = .returned (.bool true) ∧ Below W.heap.size W w' :=
  run_any (E := EvWakes) (args := []) EvWakes_ok rfl rfl wakesB_ok rfl rfl h
end
end Go.Proofs.YtgleieifinfcdaaGreatDoor
namespace Go.Proofs.YtgleieifinfcdaaGreatDoor
open Go
noncomputable section
def pc20 : CE := ⟨275, [(Pt 101 0), (I 96), (St [0, 64, 0, 3])], 2249, [(0, gFirst.2.obj),
 (1, gK.2.obj),
 (3, gBr),
 (4, gHalves.2.obj),
 (100, (.chan 450 ⟨((List.replicate 98 (Ag qr0)) ++ [(Ag qr2)] ++ (List.replicate 78 (Ag qr0)))⟩ false 512 0 false)),
 (101, (.cells ⟨[(.int .i64 (.negSucc 0)), e0, (Sx 100 0 177 177), s0, ff, (U 65)]⟩ 212 (0, 0)))], (I 0), 3206, [(0, gFirst.2.obj),
 (1, gK.2.obj),
 (3, gBr),
 (4, gHalves.2.obj),
 (100, (.chan 450 ⟨([(Ag qr0), (Ag qr91)] ++ (List.replicate 96 (Ag qr0)) ++ [(Ag qr2)] ++ (List.replicate 78 (Ag qr0)))⟩ false 512 0 false)),
 (101, (.cells ⟨[(.int .i64 (.negSucc 0)), e0, (Sx 100 0 177 177), s0, ff, (U 67)]⟩ 212 (0, 0)))]⟩
set_option maxRecDepth 1000000 in
theorem pc20_ok : pc20.good E2 1000000 = true := by kernel_rfl
theorem pc20_call {args : List Value} {s : AS} (h : pc20.is args s = true) : CallOk E2 pc20.f args s pc20.v (pc20.to s) := piece_ok (E := E2) E2_ok pc20_ok h
end
end Go.Proofs.YtgleieifinfcdaaGreatDoor
namespace Go.Proofs.YtgleieifinfcdaaGreatDoor
open Go
noncomputable section
def pc21 : CE := ⟨196, [(Pt 101 0), (I 96), (I 64), (St [0, 3])], 123, [(0, gFirst.2.obj),
 (1, gK.2.obj),
 (3, gBr),
 (4, gHalves.2.obj),
 (100, (.chan 450 ⟨(List.replicate 177 (Ag qr0))⟩ false 512 0 false)),
 (101, (.cells ⟨[(.int .i64 (.negSucc 0)), e0, (Sx 100 0 177 177), s0, ff, (U 0)]⟩ 212 (0, 0)))], (I 0), 3206, [(0, gFirst.2.obj),
 (1, gK.2.obj),
 (3, gBr),
 (4, gHalves.2.obj),
 (100, (.chan 450 ⟨([(Ag qr0), (Ag qr91)] ++ (List.replicate 96 (Ag qr0)) ++ [(Ag qr2)] ++ (List.replicate 78 (Ag qr0)))⟩ false 512 0 false)),
 (101, (.cells ⟨[(.int .i64 (.negSucc 0)), e0, (Sx 100 0 177 177), s0, ff, (U 67)]⟩ 212 (0, 0)))]⟩
def Ev21 : Env := E2.more (pieceOf [pc20])
theorem Ev21_ok : Ev21.Ok := pieces_more fun c hc args s h => by
  simp only [List.mem_cons, List.not_mem_nil, or_false] at hc
  subst hc
  exact pc20_call h
set_option maxRecDepth 1000000 in
theorem pc21_ok : pc21.good Ev21 1000000 = true := by kernel_rfl
theorem pc21_call {args : List Value} {s : AS} (h : pc21.is args s = true) : CallOk E2 pc21.f args s pc21.v (pc21.to s) := piece_ok (E := Ev21) Ev21_ok pc21_ok h
end
end Go.Proofs.YtgleieifinfcdaaGreatDoor
namespace Go.Proofs.YtgleieifinfcdaaGreatDoor
open Go
noncomputable section
def pc22 : CE := ⟨276, [(Pt 101 0)], 3206, [(0, gFirst.2.obj),
 (1, gK.2.obj),
 (3, gBr),
 (4, gHalves.2.obj),
 (100, (.chan 450 ⟨([(Ag qr0), (Ag qr91)] ++ (List.replicate 96 (Ag qr0)) ++ [(Ag qr2)] ++ (List.replicate 78 (Ag qr0)))⟩ false 512 0 false)),
 (101, (.cells ⟨[(.int .i64 (.negSucc 0)), e0, (Sx 100 0 177 177), s0, ff, (U 67)]⟩ 212 (0, 0)))], (Tu [(Pt 3996 0), s0, (I 0)]), 4006, [(0, gFirst.2.obj),
 (1, gK.2.obj),
 (3, gBr),
 (4, gHalves.2.obj),
 (100, (.chan 450 ⟨([(Ag qr0), (Ag qr91)] ++ (List.replicate 96 (Ag qr0)) ++ [(Ag qr2)] ++ (List.replicate 78 (Ag qr0)))⟩ false 512 0 false)),
 (101, (.cells ⟨[(.int .i64 (.negSucc 0)), e0, (Sx 100 0 177 177), s0, ff, (U 67)]⟩ 212 (0, 0))),
 (3996, (.cells ⟨[(Pt 101 0), (U 1), (U 1), (I 96), (St [0, 64, 0, 3]), (I 1), (U 1), (I 96), ff]⟩ 429 (0, 0)))]⟩
set_option maxRecDepth 1000000 in
theorem pc22_ok : pc22.good E2 1000000 = true := by kernel_rfl
theorem pc22_call {args : List Value} {s : AS} (h : pc22.is args s = true) : CallOk E2 pc22.f args s pc22.v (pc22.to s) := piece_ok (E := E2) E2_ok pc22_ok h
end
end Go.Proofs.YtgleieifinfcdaaGreatDoor
