/- A piece of the run: armarium/pages.Format 123 3206. A piece of the run: armarium/boxes.Mount 5214 6817. -/
import Derived.Test.YtdcioacjhpnihaaGreatDoorQ22
import Derived.Test.YtdcioacjhpnihaaGreatDoorQ23
set_option linter.all false
namespace Go.Proofs.YtdcioacjhpnihaaGreatDoor
open Go
noncomputable section
def pc1 : CE := ⟨114, [(Pt 101 0), (I 96), (I 64), (St [0, 4])], 123, [(1, gFirst.2.obj),
 (2, gK.2.obj),
 (3, gBr),
 (4, gHalves.2.obj),
 (100, (.chan 427 ⟨(List.replicate 182 (Ag qr0))⟩ false 512 0 false)),
 (101, (.cells ⟨[(.int .i64 (.negSucc 0)), e0, (Sx 100 0 182 182), s0, ff, (U 0)]⟩ 159 (0, 0)))], (I 0), 3206, [(1, gFirst.2.obj),
 (2, gK.2.obj),
 (3, gBr),
 (4, gHalves.2.obj),
 (100, (.chan 427 ⟨([(Ag qr0), (Ag qr3)] ++ (List.replicate 96 (Ag qr0)) ++ [(Ag qr2)] ++ (List.replicate 83 (Ag qr0)))⟩ false 512 0 false)),
 (101, (.cells ⟨[(.int .i64 (.negSucc 0)), e0, (Sx 100 0 182 182), s0, ff, (U 67)]⟩ 159 (0, 0)))]⟩
def Ev1 : Env := E2.more (pieceOf [pc0])
theorem Ev1_ok : Ev1.Ok := pieces_more fun c hc args s h => by
  simp only [List.mem_cons, List.not_mem_nil, or_false] at hc
  subst hc
  exact pc0_call h
set_option maxRecDepth 1000000 in
theorem pc1_ok : pc1.good Ev1 1000000 = true := by kernel_rfl
theorem pc1_call {args : List Value} {s : AS} (h : pc1.is args s = true) : CallOk E2 pc1.f args s pc1.v (pc1.to s) := piece_ok (E := Ev1) Ev1_ok pc1_ok h
end
end Go.Proofs.YtdcioacjhpnihaaGreatDoor
namespace Go.Proofs.YtdcioacjhpnihaaGreatDoor
open Go
noncomputable section
def pc5 : CE := ⟨27, [(Pt 101 0)], 5214, [(1, gFirst.2.obj),
 (2, gK.2.obj),
 (3, gBr),
 (4, gHalves.2.obj),
 (100, (.chan 427 ⟨([(Ag qr4), (Ag qr3), (Ag qr0), (Ag qr5), (Ag qr6), (Ag qr7)] ++ (List.replicate 92 (Ag qr0)) ++ [(Ag qr2)] ++ (List.replicate 83 (Ag qr0)))⟩ false 512 0 false)),
 (101, (.cells ⟨[(.int .i64 (.negSucc 0)), e0, (Sx 100 0 182 182), s0, ff, (U 74)]⟩ 159 (0, 0)))], (Tu [(Pt 6780 0), (I 0)]), 6817, [(1, gFirst.2.obj),
 (2, gK.2.obj),
 (3, gBr),
 (4, gHalves.2.obj),
 (100, (.chan 427 ⟨([(Ag qr4), (Ag qr13), (Ag qr0), (Ag qr5), (Ag qr6), (Ag qr7)] ++ (List.replicate 92 (Ag qr0)) ++ [(Ag qr12)] ++ (List.replicate 83 (Ag qr0)))⟩ false 512 0 false)),
 (101, (.cells ⟨[(.int .i64 (.negSucc 0)), e0, (Sx 100 0 182 182), s0, ff, (U 79)]⟩ 159 (0, 0))),
 (6005, (.cells ⟨[(Pt 101 0), (U 3), (U 4), (I 96), (St [0, 64, 0, 4]), (I 1), (U 4), (I 0), ff]⟩ 376 (0, 0))),
 (6035, (.map ⟨[⟨(I 0), (Ag qr12), 0⟩, ⟨(I 1), (Ag qr0), 1⟩]⟩ 2)),
 (6036, (.map ⟨[]⟩ 0)),
 (6037, (.map ⟨[]⟩ 0)),
 (6038, (.cells ⟨[(Pt 6005 0), (Pt 101 0), (I 64), (St [0, 4]), (Mp 6035), (Mp 6036), (Mp 6037), ff]⟩ 240 (0, 0))),
 (6434, (.cells ⟨[(Pt 6038 0), (Pt 6038 0), (I 32), (I 4), (I 0), (Pt 6038 0), (I 32), (I 6), (I 0), (Pt 6038 0), (I 4), (I 4), (I 0), (Pt 6038 0), (I 17), (I 33), (I 0), (Pt 6038 0), (I 1), (I 1), (I 0), (Pt 6038 0), (I 32), (I 5), (I 0), (Pt 6038 0), (I 33), (I 4), (I 0), (Pt 6038 0), (I 2), (I 5), (I 0), ff, (I 0)]⟩ 141 (0, 0))),
 (6780, (.cells ⟨[(Pt 6434 0), (I 4)]⟩ 133 (0, 0)))]⟩
def Ev5 : Env := E2.more (pieceOf [pc4])
theorem Ev5_ok : Ev5.Ok := pieces_more fun c hc args s h => by
  simp only [List.mem_cons, List.not_mem_nil, or_false] at hc
  subst hc
  exact pc4_call h
set_option maxRecDepth 1000000 in
theorem pc5_ok : pc5.good Ev5 1000000 = true := by kernel_rfl
theorem pc5_call {args : List Value} {s : AS} (h : pc5.is args s = true) : CallOk E2 pc5.f args s pc5.v (pc5.to s) := piece_ok (E := Ev5) Ev5_ok pc5_ok h
end
end Go.Proofs.YtdcioacjhpnihaaGreatDoor
