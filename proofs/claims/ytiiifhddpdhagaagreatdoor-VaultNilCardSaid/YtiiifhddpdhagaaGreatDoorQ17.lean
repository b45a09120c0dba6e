/- A piece of the run: armarium/wal.Format 2251. A piece of the run: armarium/pages.Format 125. A piece of the run: armarium/wal.Open 3208. A piece of the run: armarium/forest.Format 125. -/
import Derived.Test.YtiiifhddpdhagaaGreatDoorQ16
set_option linter.all false
namespace Go.Proofs.YtiiifhddpdhagaaGreatDoor
open Go
noncomputable section
def pc0 : CE := ⟨296, [(Pt 102 0), (I 96), (St [0, 64, 0, 4])], 2251, [(0, gFirst.2.obj),
 (1, gHalves.2.obj),
 (3, gK.2.obj),
 (4, gBr),
 (101, (.chan 432 ⟨((List.replicate 98 (Ag qr0)) ++ [(Ag qr2)] ++ (List.replicate 83 (Ag qr0)))⟩ false 512 0 false)),
 (102, (.cells ⟨[(.int .i64 (.negSucc 0)), e0, (Sx 101 0 182 182), s0, ff, (U 65)]⟩ 208 (0, 0)))], (I 0), 3208, [(0, gFirst.2.obj),
 (1, gHalves.2.obj),
 (3, gK.2.obj),
 (4, gBr),
 (101, (.chan 432 ⟨([(Ag qr0), (Ag qr3)] ++ (List.replicate 96 (Ag qr0)) ++ [(Ag qr2)] ++ (List.replicate 83 (Ag qr0)))⟩ false 512 0 false)),
 (102, (.cells ⟨[(.int .i64 (.negSucc 0)), e0, (Sx 101 0 182 182), s0, ff, (U 67)]⟩ 208 (0, 0)))]⟩
set_option maxRecDepth 1000000 in
theorem pc0_ok : pc0.good E2 1000000 = true := by kernel_rfl
theorem pc0_call {args : List Value} {s : AS} (h : pc0.is args s = true) : CallOk E2 pc0.f args s pc0.v (pc0.to s) := piece_ok (E := E2) E2_ok pc0_ok h
end
end Go.Proofs.YtiiifhddpdhagaaGreatDoor
namespace Go.Proofs.YtiiifhddpdhagaaGreatDoor
open Go
noncomputable section
def pc1 : CE := ⟨189, [(Pt 102 0), (I 96), (I 64), (St [0, 4])], 125, [(0, gFirst.2.obj),
 (1, gHalves.2.obj),
 (3, gK.2.obj),
 (4, gBr),
 (101, (.chan 432 ⟨(List.replicate 182 (Ag qr0))⟩ false 512 0 false)),
 (102, (.cells ⟨[(.int .i64 (.negSucc 0)), e0, (Sx 101 0 182 182), s0, ff, (U 0)]⟩ 208 (0, 0)))], (I 0), 3208, [(0, gFirst.2.obj),
 (1, gHalves.2.obj),
 (3, gK.2.obj),
 (4, gBr),
 (101, (.chan 432 ⟨([(Ag qr0), (Ag qr3)] ++ (List.replicate 96 (Ag qr0)) ++ [(Ag qr2)] ++ (List.replicate 83 (Ag qr0)))⟩ false 512 0 false)),
 (102, (.cells ⟨[(.int .i64 (.negSucc 0)), e0, (Sx 101 0 182 182), s0, ff, (U 67)]⟩ 208 (0, 0)))]⟩
def Ev1 : Env := E2.more (pieceOf [pc0])
theorem Ev1_ok : Ev1.Ok := pieces_more fun c hc args s h => by
  simp only [List.mem_cons, List.not_mem_nil, or_false] at hc
  subst hc
  exact pc0_call h
set_option maxRecDepth 1000000 in
theorem pc1_ok : pc1.good Ev1 1000000 = true := by kernel_rfl
theorem pc1_call {args : List Value} {s : AS} (h : pc1.is args s = true) : CallOk E2 pc1.f args s pc1.v (pc1.to s) := piece_ok (E := Ev1) Ev1_ok pc1_ok h
end
end Go.Proofs.YtiiifhddpdhagaaGreatDoor
namespace Go.Proofs.YtiiifhddpdhagaaGreatDoor
open Go
noncomputable section
def pc2 : CE := ⟨248, [(Pt 102 0)], 3208, [(0, gFirst.2.obj),
 (1, gHalves.2.obj),
 (3, gK.2.obj),
 (4, gBr),
 (101, (.chan 432 ⟨([(Ag qr0), (Ag qr3)] ++ (List.replicate 96 (Ag qr0)) ++ [(Ag qr2)] ++ (List.replicate 83 (Ag qr0)))⟩ false 512 0 false)),
 (102, (.cells ⟨[(.int .i64 (.negSucc 0)), e0, (Sx 101 0 182 182), s0, ff, (U 67)]⟩ 208 (0, 0)))], (Tu [(Pt 3998 0), s0, (I 0)]), 4008, [(0, gFirst.2.obj),
 (1, gHalves.2.obj),
 (3, gK.2.obj),
 (4, gBr),
 (101, (.chan 432 ⟨([(Ag qr0), (Ag qr3)] ++ (List.replicate 96 (Ag qr0)) ++ [(Ag qr2)] ++ (List.replicate 83 (Ag qr0)))⟩ false 512 0 false)),
 (102, (.cells ⟨[(.int .i64 (.negSucc 0)), e0, (Sx 101 0 182 182), s0, ff, (U 67)]⟩ 208 (0, 0))),
 (3998, (.cells ⟨[(Pt 102 0), (U 1), (U 1), (I 96), (St [0, 64, 0, 4]), (I 1), (U 1), (I 96), ff]⟩ 387 (0, 0)))]⟩
set_option maxRecDepth 1000000 in
theorem pc2_ok : pc2.good E2 1000000 = true := by kernel_rfl
theorem pc2_call {args : List Value} {s : AS} (h : pc2.is args s = true) : CallOk E2 pc2.f args s pc2.v (pc2.to s) := piece_ok (E := E2) E2_ok pc2_ok h
end
end Go.Proofs.YtiiifhddpdhagaaGreatDoor
namespace Go.Proofs.YtiiifhddpdhagaaGreatDoor
open Go
noncomputable section
def pc3 : CE := ⟨102, [(Pt 102 0), (I 96), (I 64), (St [0, 4])], 125, [(0, gFirst.2.obj),
 (1, gHalves.2.obj),
 (3, gK.2.obj),
 (4, gBr),
 (101, (.chan 432 ⟨(List.replicate 182 (Ag qr0))⟩ false 512 0 false)),
 (102, (.cells ⟨[(.int .i64 (.negSucc 0)), e0, (Sx 101 0 182 182), s0, ff, (U 0)]⟩ 208 (0, 0)))], (I 0), 5216, [(0, gFirst.2.obj),
 (1, gHalves.2.obj),
 (3, gK.2.obj),
 (4, gBr),
 (101, (.chan 432 ⟨([(Ag qr4), (Ag qr3), (Ag qr0), (Ag qr5), (Ag qr6), (Ag qr7)] ++ (List.replicate 92 (Ag qr0)) ++ [(Ag qr2)] ++ (List.replicate 83 (Ag qr0)))⟩ false 512 0 false)),
 (102, (.cells ⟨[(.int .i64 (.negSucc 0)), e0, (Sx 101 0 182 182), s0, ff, (U 74)]⟩ 208 (0, 0)))]⟩
def Ev3 : Env := E2.more (pieceOf [pc1, pc2])
theorem Ev3_ok : Ev3.Ok := pieces_more fun c hc args s h => by
  simp only [List.mem_cons, List.not_mem_nil, or_false] at hc
  rcases hc with rfl | rfl
  · exact pc1_call h
  · exact pc2_call h
set_option maxRecDepth 1000000 in
theorem pc3_ok : pc3.good Ev3 1000000 = true := by kernel_rfl
theorem pc3_call {args : List Value} {s : AS} (h : pc3.is args s = true) : CallOk E2 pc3.f args s pc3.v (pc3.to s) := piece_ok (E := Ev3) Ev3_ok pc3_ok h
end
end Go.Proofs.YtiiifhddpdhagaaGreatDoor
