/- A piece of the run: armarium/wal.Format 2249 3206. A piece of the run: armarium/wal.Open 3206 4006. A piece of the run: armarium/wal.Open 5214 6035. -/
import Derived.Test.YtdcioacjhpnihaaGreatDoorQ22
set_option linter.all false
namespace Go.Proofs.YtdcioacjhpnihaaGreatDoor
open Go
noncomputable section
def pc0 : CE := ⟨207, [(Pt 101 0), (I 96), (St [0, 64, 0, 4])], 2249, [(1, gFirst.2.obj),
 (2, gK.2.obj),
 (3, gBr),
 (4, gHalves.2.obj),
 (100, (.chan 427 ⟨((List.replicate 98 (Ag qr0)) ++ [(Ag qr2)] ++ (List.replicate 83 (Ag qr0)))⟩ false 512 0 false)),
 (101, (.cells ⟨[(.int .i64 (.negSucc 0)), e0, (Sx 100 0 182 182), s0, ff, (U 65)]⟩ 159 (0, 0)))], (I 0), 3206, [(1, gFirst.2.obj),
 (2, gK.2.obj),
 (3, gBr),
 (4, gHalves.2.obj),
 (100, (.chan 427 ⟨([(Ag qr0), (Ag qr3)] ++ (List.replicate 96 (Ag qr0)) ++ [(Ag qr2)] ++ (List.replicate 83 (Ag qr0)))⟩ false 512 0 false)),
 (101, (.cells ⟨[(.int .i64 (.negSucc 0)), e0, (Sx 100 0 182 182), s0, ff, (U 67)]⟩ 159 (0, 0)))]⟩
set_option maxRecDepth 1000000 in
theorem pc0_ok : pc0.good E2 1000000 = true := by kernel_rfl
theorem pc0_call {args : List Value} {s : AS} (h : pc0.is args s = true) : CallOk E2 pc0.f args s pc0.v (pc0.to s) := piece_ok (E := E2) E2_ok pc0_ok h
end
end Go.Proofs.YtdcioacjhpnihaaGreatDoor
namespace Go.Proofs.YtdcioacjhpnihaaGreatDoor
open Go
noncomputable section
def pc2 : CE := ⟨208, [(Pt 101 0)], 3206, [(1, gFirst.2.obj),
 (2, gK.2.obj),
 (3, gBr),
 (4, gHalves.2.obj),
 (100, (.chan 427 ⟨([(Ag qr0), (Ag qr3)] ++ (List.replicate 96 (Ag qr0)) ++ [(Ag qr2)] ++ (List.replicate 83 (Ag qr0)))⟩ false 512 0 false)),
 (101, (.cells ⟨[(.int .i64 (.negSucc 0)), e0, (Sx 100 0 182 182), s0, ff, (U 67)]⟩ 159 (0, 0)))], (Tu [(Pt 3996 0), s0, (I 0)]), 4006, [(1, gFirst.2.obj),
 (2, gK.2.obj),
 (3, gBr),
 (4, gHalves.2.obj),
 (100, (.chan 427 ⟨([(Ag qr0), (Ag qr3)] ++ (List.replicate 96 (Ag qr0)) ++ [(Ag qr2)] ++ (List.replicate 83 (Ag qr0)))⟩ false 512 0 false)),
 (101, (.cells ⟨[(.int .i64 (.negSucc 0)), e0, (Sx 100 0 182 182), s0, ff, (U 67)]⟩ 159 (0, 0))),
 (3996, (.cells ⟨[(Pt 101 0), (U 1), (U 1), (I 96), (St [0, 64, 0, 4]), (I 1), (U 1), (I 96), ff]⟩ 376 (0, 0)))]⟩
set_option maxRecDepth 1000000 in
theorem pc2_ok : pc2.good E2 1000000 = true := by kernel_rfl
theorem pc2_call {args : List Value} {s : AS} (h : pc2.is args s = true) : CallOk E2 pc2.f args s pc2.v (pc2.to s) := piece_ok (E := E2) E2_ok pc2_ok h
end
end Go.Proofs.YtdcioacjhpnihaaGreatDoor
namespace Go.Proofs.YtdcioacjhpnihaaGreatDoor
open Go
noncomputable section
def pc4 : CE := ⟨208, [(Pt 101 0)], 5214, [(1, gFirst.2.obj),
 (2, gK.2.obj),
 (3, gBr),
 (4, gHalves.2.obj),
 (100, (.chan 427 ⟨([(Ag qr4), (Ag qr3), (Ag qr0), (Ag qr5), (Ag qr6), (Ag qr7)] ++ (List.replicate 92 (Ag qr0)) ++ [(Ag qr2)] ++ (List.replicate 83 (Ag qr0)))⟩ false 512 0 false)),
 (101, (.cells ⟨[(.int .i64 (.negSucc 0)), e0, (Sx 100 0 182 182), s0, ff, (U 74)]⟩ 159 (0, 0)))], (Tu [(Pt 6005 0), (Sg 6033 0 0 1 1), (I 0)]), 6035, [(1, gFirst.2.obj),
 (2, gK.2.obj),
 (3, gBr),
 (4, gHalves.2.obj),
 (100, (.chan 427 ⟨([(Ag qr4), (Ag qr3), (Ag qr0), (Ag qr5), (Ag qr6), (Ag qr7)] ++ (List.replicate 92 (Ag qr0)) ++ [(Ag qr2)] ++ (List.replicate 83 (Ag qr0)))⟩ false 512 0 false)),
 (101, (.cells ⟨[(.int .i64 (.negSucc 0)), e0, (Sx 100 0 182 182), s0, ff, (U 74)]⟩ 159 (0, 0))),
 (6005, (.cells ⟨[(Pt 101 0), (U 2), (U 1), (I 96), (St [0, 64, 0, 4]), (I 0), (U 4), (I 96), ff]⟩ 376 (0, 0))),
 (6033, (.cells ⟨[(St qt11)]⟩ 9 (0, 0)))]⟩
set_option maxRecDepth 1000000 in
theorem pc4_ok : pc4.good E2 1000000 = true := by kernel_rfl
theorem pc4_call {args : List Value} {s : AS} (h : pc4.is args s = true) : CallOk E2 pc4.f args s pc4.v (pc4.to s) := piece_ok (E := E2) E2_ok pc4_ok h
end
end Go.Proofs.YtdcioacjhpnihaaGreatDoor
