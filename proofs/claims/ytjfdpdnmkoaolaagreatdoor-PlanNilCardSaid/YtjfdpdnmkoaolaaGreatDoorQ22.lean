/- A piece of the run: armarium/pages.Format 125 3208. -/
import Derived.Test.YtjfdpdnmkoaolaaGreatDoorQ21
set_option linter.all false
namespace Go.Proofs.YtjfdpdnmkoaolaaGreatDoor
open Go
noncomputable section
def pc1 : CE := ⟨107, [(Pt 102 0), (I 96), (I 64), (St [0, 4])], 125, [(0, gFirst.2.obj),
 (1, gK.2.obj),
 (2, gBr),
 (4, gHalves.2.obj),
 (101, (.chan 429 ⟨(List.replicate 182 (Ag qr0))⟩ false 512 0 false)),
 (102, (.cells ⟨[(.int .i64 (.negSucc 0)), e0, (Sx 101 0 182 182), s0, ff, (U 0)]⟩ 184 (0, 0)))], (I 0), 3208, [(0, gFirst.2.obj),
 (1, gK.2.obj),
 (2, gBr),
 (4, gHalves.2.obj),
 (101, (.chan 429 ⟨([(Ag qr0), (Ag qr3)] ++ (List.replicate 96 (Ag qr0)) ++ [(Ag qr2)] ++ (List.replicate 83 (Ag qr0)))⟩ false 512 0 false)),
 (102, (.cells ⟨[(.int .i64 (.negSucc 0)), e0, (Sx 101 0 182 182), s0, ff, (U 67)]⟩ 184 (0, 0)))]⟩
def Ev1 : Env := E2.more (pieceOf [pc0])
theorem Ev1_ok : Ev1.Ok := pieces_more fun c hc args s h => by
  simp only [List.mem_cons, List.not_mem_nil, or_false] at hc
  subst hc
  exact pc0_call h
set_option maxRecDepth 1000000 in
theorem pc1_ok : pc1.good Ev1 1000000 = true := by kernel_rfl
theorem pc1_call {args : List Value} {s : AS} (h : pc1.is args s = true) : CallOk E2 pc1.f args s pc1.v (pc1.to s) := piece_ok (E := Ev1) Ev1_ok pc1_ok h
end
end Go.Proofs.YtjfdpdnmkoaolaaGreatDoor
