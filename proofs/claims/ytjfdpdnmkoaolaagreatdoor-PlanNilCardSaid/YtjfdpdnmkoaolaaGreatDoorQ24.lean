/- A piece of the run: armarium/wal.Open 5216 6037. -/
import Derived.Test.YtjfdpdnmkoaolaaGreatDoorQ21
set_option linter.all false
namespace Go.Proofs.YtjfdpdnmkoaolaaGreatDoor
open Go
noncomputable section
def pc4 : CE := ⟨189, [(Pt 102 0)], 5216, [(0, gFirst.2.obj),
 (1, gK.2.obj),
 (2, gBr),
 (4, gHalves.2.obj),
 (101, (.chan 429 ⟨([(Ag qr4), (Ag qr3), (Ag qr0), (Ag qr5), (Ag qr6), (Ag qr7)] ++ (List.replicate 92 (Ag qr0)) ++ [(Ag qr2)] ++ (List.replicate 83 (Ag qr0)))⟩ false 512 0 false)),
 (102, (.cells ⟨[(.int .i64 (.negSucc 0)), e0, (Sx 101 0 182 182), s0, ff, (U 74)]⟩ 184 (0, 0)))], (Tu [(Pt 6007 0), (Sg 6035 0 0 1 1), (I 0)]), 6037, [(0, gFirst.2.obj),
 (1, gK.2.obj),
 (2, gBr),
 (4, gHalves.2.obj),
 (101, (.chan 429 ⟨([(Ag qr4), (Ag qr3), (Ag qr0), (Ag qr5), (Ag qr6), (Ag qr7)] ++ (List.replicate 92 (Ag qr0)) ++ [(Ag qr2)] ++ (List.replicate 83 (Ag qr0)))⟩ false 512 0 false)),
 (102, (.cells ⟨[(.int .i64 (.negSucc 0)), e0, (Sx 101 0 182 182), s0, ff, (U 74)]⟩ 184 (0, 0))),
 (6007, (.cells ⟨[(Pt 102 0), (U 2), (U 1), (I 96), (St [0, 64, 0, 4]), (I 0), (U 4), (I 96), ff]⟩ 368 (0, 0))),
 (6035, (.cells ⟨[(St qt11)]⟩ 9 (0, 0)))]⟩
set_option maxRecDepth 1000000 in
theorem pc4_ok : pc4.good E2 1000000 = true := by kernel_rfl
theorem pc4_call {args : List Value} {s : AS} (h : pc4.is args s = true) : CallOk E2 pc4.f args s pc4.v (pc4.to s) := piece_ok (E := E2) E2_ok pc4_ok h
end
end Go.Proofs.YtjfdpdnmkoaolaaGreatDoor
