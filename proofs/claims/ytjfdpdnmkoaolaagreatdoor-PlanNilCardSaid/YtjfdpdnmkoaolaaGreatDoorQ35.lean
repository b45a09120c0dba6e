/- A piece of the run: armarium/pages.Format 123 3206. A piece of the run: armarium/wal.Open 3206 4006. A piece of the run: armarium/forest.Format 123 5214. A piece of the run: armarium/wal.Open 5214 6035. -/
import Derived.Test.YtjfdpdnmkoaolaaGreatDoorQ21
import Derived.Test.YtjfdpdnmkoaolaaGreatDoorQ34
set_option linter.all false
namespace Go.Proofs.YtjfdpdnmkoaolaaGreatDoor
open Go
noncomputable section
def pc20 : CE := ⟨107, [(Pt 101 0), (I 96), (I 64), (St [0, 3])], 123, [(0, gFirst.2.obj),
 (1, gK.2.obj),
 (2, gBr),
 (4, gHalves.2.obj),
 (100, (.chan 429 ⟨(List.replicate 177 (Ag qr0))⟩ false 512 0 false)),
 (101, (.cells ⟨[(.int .i64 (.negSucc 0)), e0, (Sx 100 0 177 177), s0, ff, (U 0)]⟩ 184 (0, 0)))], (I 0), 3206, [(0, gFirst.2.obj),
 (1, gK.2.obj),
 (2, gBr),
 (4, gHalves.2.obj),
 (100, (.chan 429 ⟨([(Ag qr0), (Ag qr84)] ++ (List.replicate 96 (Ag qr0)) ++ [(Ag qr2)] ++ (List.replicate 78 (Ag qr0)))⟩ false 512 0 false)),
 (101, (.cells ⟨[(.int .i64 (.negSucc 0)), e0, (Sx 100 0 177 177), s0, ff, (U 67)]⟩ 184 (0, 0)))]⟩
def Ev20 : Env := E2.more (pieceOf [pc19])
theorem Ev20_ok : Ev20.Ok := pieces_more fun c hc args s h => by
  simp only [List.mem_cons, List.not_mem_nil, or_false] at hc
  subst hc
  exact pc19_call h
set_option maxRecDepth 1000000 in
theorem pc20_ok : pc20.good Ev20 1000000 = true := by kernel_rfl
theorem pc20_call {args : List Value} {s : AS} (h : pc20.is args s = true) : CallOk E2 pc20.f args s pc20.v (pc20.to s) := piece_ok (E := Ev20) Ev20_ok pc20_ok h
end
end Go.Proofs.YtjfdpdnmkoaolaaGreatDoor
namespace Go.Proofs.YtjfdpdnmkoaolaaGreatDoor
open Go
noncomputable section
def pc21 : CE := ⟨189, [(Pt 101 0)], 3206, [(0, gFirst.2.obj),
 (1, gK.2.obj),
 (2, gBr),
 (4, gHalves.2.obj),
 (100, (.chan 429 ⟨([(Ag qr0), (Ag qr84)] ++ (List.replicate 96 (Ag qr0)) ++ [(Ag qr2)] ++ (List.replicate 78 (Ag qr0)))⟩ false 512 0 false)),
 (101, (.cells ⟨[(.int .i64 (.negSucc 0)), e0, (Sx 100 0 177 177), s0, ff, (U 67)]⟩ 184 (0, 0)))], (Tu [(Pt 3996 0), s0, (I 0)]), 4006, [(0, gFirst.2.obj),
 (1, gK.2.obj),
 (2, gBr),
 (4, gHalves.2.obj),
 (100, (.chan 429 ⟨([(Ag qr0), (Ag qr84)] ++ (List.replicate 96 (Ag qr0)) ++ [(Ag qr2)] ++ (List.replicate 78 (Ag qr0)))⟩ false 512 0 false)),
 (101, (.cells ⟨[(.int .i64 (.negSucc 0)), e0, (Sx 100 0 177 177), s0, ff, (U 67)]⟩ 184 (0, 0))),
 (3996, (.cells ⟨[(Pt 101 0), (U 1), (U 1), (I 96), (St [0, 64, 0, 3]), (I 1), (U 1), (I 96), ff]⟩ 368 (0, 0)))]⟩
set_option maxRecDepth 1000000 in
theorem pc21_ok : pc21.good E2 1000000 = true := by kernel_rfl
theorem pc21_call {args : List Value} {s : AS} (h : pc21.is args s = true) : CallOk E2 pc21.f args s pc21.v (pc21.to s) := piece_ok (E := E2) E2_ok pc21_ok h
end
end Go.Proofs.YtjfdpdnmkoaolaaGreatDoor
namespace Go.Proofs.YtjfdpdnmkoaolaaGreatDoor
open Go
noncomputable section
def pc22 : CE := ⟨59, [(Pt 101 0), (I 96), (I 64), (St [0, 3])], 123, [(0, gFirst.2.obj),
 (1, gK.2.obj),
 (2, gBr),
 (4, gHalves.2.obj),
 (100, (.chan 429 ⟨(List.replicate 177 (Ag qr0))⟩ false 512 0 false)),
 (101, (.cells ⟨[(.int .i64 (.negSucc 0)), e0, (Sx 100 0 177 177), s0, ff, (U 0)]⟩ 184 (0, 0)))], (I 0), 5214, [(0, gFirst.2.obj),
 (1, gK.2.obj),
 (2, gBr),
 (4, gHalves.2.obj),
 (100, (.chan 429 ⟨([(Ag qr85), (Ag qr84), (Ag qr0), (Ag qr5), (Ag qr6), (Ag qr7)] ++ (List.replicate 92 (Ag qr0)) ++ [(Ag qr2)] ++ (List.replicate 78 (Ag qr0)))⟩ false 512 0 false)),
 (101, (.cells ⟨[(.int .i64 (.negSucc 0)), e0, (Sx 100 0 177 177), s0, ff, (U 74)]⟩ 184 (0, 0)))]⟩
def Ev22 : Env := E2.more (pieceOf [pc20, pc21])
theorem Ev22_ok : Ev22.Ok := pieces_more fun c hc args s h => by
  simp only [List.mem_cons, List.not_mem_nil, or_false] at hc
  rcases hc with rfl | rfl
  · exact pc20_call h
  · exact pc21_call h
set_option maxRecDepth 1000000 in
theorem pc22_ok : pc22.good Ev22 1000000 = true := by kernel_rfl
theorem pc22_call {args : List Value} {s : AS} (h : pc22.is args s = true) : CallOk E2 pc22.f args s pc22.v (pc22.to s) := piece_ok (E := Ev22) Ev22_ok pc22_ok h
end
end Go.Proofs.YtjfdpdnmkoaolaaGreatDoor
namespace Go.Proofs.YtjfdpdnmkoaolaaGreatDoor
open Go
noncomputable section
def pc23 : CE := ⟨189, [(Pt 101 0)], 5214, [(0, gFirst.2.obj),
 (1, gK.2.obj),
 (2, gBr),
 (4, gHalves.2.obj),
 (100, (.chan 429 ⟨([(Ag qr85), (Ag qr84), (Ag qr0), (Ag qr5), (Ag qr6), (Ag qr7)] ++ (List.replicate 92 (Ag qr0)) ++ [(Ag qr2)] ++ (List.replicate 78 (Ag qr0)))⟩ false 512 0 false)),
 (101, (.cells ⟨[(.int .i64 (.negSucc 0)), e0, (Sx 100 0 177 177), s0, ff, (U 74)]⟩ 184 (0, 0)))], (Tu [(Pt 6005 0), (Sg 6033 0 0 1 1), (I 0)]), 6035, [(0, gFirst.2.obj),
 (1, gK.2.obj),
 (2, gBr),
 (4, gHalves.2.obj),
 (100, (.chan 429 ⟨([(Ag qr85), (Ag qr84), (Ag qr0), (Ag qr5), (Ag qr6), (Ag qr7)] ++ (List.replicate 92 (Ag qr0)) ++ [(Ag qr2)] ++ (List.replicate 78 (Ag qr0)))⟩ false 512 0 false)),
 (101, (.cells ⟨[(.int .i64 (.negSucc 0)), e0, (Sx 100 0 177 177), s0, ff, (U 74)]⟩ 184 (0, 0))),
 (6005, (.cells ⟨[(Pt 101 0), (U 2), (U 1), (I 96), (St [0, 64, 0, 3]), (I 0), (U 4), (I 96), ff]⟩ 368 (0, 0))),
 (6033, (.cells ⟨[(St qt11)]⟩ 9 (0, 0)))]⟩
set_option maxRecDepth 1000000 in
theorem pc23_ok : pc23.good E2 1000000 = true := by kernel_rfl
theorem pc23_call {args : List Value} {s : AS} (h : pc23.is args s = true) : CallOk E2 pc23.f args s pc23.v (pc23.to s) := piece_ok (E := E2) E2_ok pc23_ok h
end
end Go.Proofs.YtjfdpdnmkoaolaaGreatDoor
