/- A piece of the run: armarium/wal.Open 3208 4008. A piece of the run: armarium/forest.Format 125 5216. -/
import Derived.Test.YtjfdpdnmkoaolaaGreatDoorQ21
import Derived.Test.YtjfdpdnmkoaolaaGreatDoorQ22
set_option linter.all false
namespace Go.Proofs.YtjfdpdnmkoaolaaGreatDoor
open Go
noncomputable section
def pc2 : CE := ⟨189, [(Pt 102 0)], 3208, [(0, gFirst.2.obj),
 (1, gK.2.obj),
 (2, gBr),
 (4, gHalves.2.obj),
 (101, (.chan 429 ⟨([(Ag qr0), (Ag qr3)] ++ (List.replicate 96 (Ag qr0)) ++ [(Ag qr2)] ++ (List.replicate 83 (Ag qr0)))⟩ false 512 0 false)),
 (102, (.cells ⟨[(.int .i64 (.negSucc 0)), e0, (Sx 101 0 182 182), s0, ff, (U 67)]⟩ 184 (0, 0)))], (Tu [(Pt 3998 0), s0, (I 0)]), 4008, [(0, gFirst.2.obj),
 (1, gK.2.obj),
 (2, gBr),
 (4, gHalves.2.obj),
 (101, (.chan 429 ⟨([(Ag qr0), (Ag qr3)] ++ (List.replicate 96 (Ag qr0)) ++ [(Ag qr2)] ++ (List.replicate 83 (Ag qr0)))⟩ false 512 0 false)),
 (102, (.cells ⟨[(.int .i64 (.negSucc 0)), e0, (Sx 101 0 182 182), s0, ff, (U 67)]⟩ 184 (0, 0))),
 (3998, (.cells ⟨[(Pt 102 0), (U 1), (U 1), (I 96), (St [0, 64, 0, 4]), (I 1), (U 1), (I 96), ff]⟩ 368 (0, 0)))]⟩
set_option maxRecDepth 1000000 in
theorem pc2_ok : pc2.good E2 1000000 = true := by kernel_rfl
theorem pc2_call {args : List Value} {s : AS} (h : pc2.is args s = true) : CallOk E2 pc2.f args s pc2.v (pc2.to s) := piece_ok (E := E2) E2_ok pc2_ok h
end
end Go.Proofs.YtjfdpdnmkoaolaaGreatDoor
namespace Go.Proofs.YtjfdpdnmkoaolaaGreatDoor
open Go
noncomputable section
def pc3 : CE := ⟨59, [(Pt 102 0), (I 96), (I 64), (St [0, 4])], 125, [(0, gFirst.2.obj),
 (1, gK.2.obj),
 (2, gBr),
 (4, gHalves.2.obj),
 (101, (.chan 429 ⟨(List.replicate 182 (Ag qr0))⟩ false 512 0 false)),
 (102, (.cells ⟨[(.int .i64 (.negSucc 0)), e0, (Sx 101 0 182 182), s0, ff, (U 0)]⟩ 184 (0, 0)))], (I 0), 5216, [(0, gFirst.2.obj),
 (1, gK.2.obj),
 (2, gBr),
 (4, gHalves.2.obj),
 (101, (.chan 429 ⟨([(Ag qr4), (Ag qr3), (Ag qr0), (Ag qr5), (Ag qr6), (Ag qr7)] ++ (List.replicate 92 (Ag qr0)) ++ [(Ag qr2)] ++ (List.replicate 83 (Ag qr0)))⟩ false 512 0 false)),
 (102, (.cells ⟨[(.int .i64 (.negSucc 0)), e0, (Sx 101 0 182 182), s0, ff, (U 74)]⟩ 184 (0, 0)))]⟩
def Ev3 : Env := E2.more (pieceOf [pc1, pc2])
theorem Ev3_ok : Ev3.Ok := pieces_more fun c hc args s h => by
  simp only [List.mem_cons, List.not_mem_nil, or_false] at hc
  rcases hc with rfl | rfl
  · exact pc1_call h
  · exact pc2_call h
set_option maxRecDepth 1000000 in
theorem pc3_ok : pc3.good Ev3 1000000 = true := by kernel_rfl
theorem pc3_call {args : List Value} {s : AS} (h : pc3.is args s = true) : CallOk E2 pc3.f args s pc3.v (pc3.to s) := piece_ok (E := Ev3) Ev3_ok pc3_ok h
end
end Go.Proofs.YtjfdpdnmkoaolaaGreatDoor
