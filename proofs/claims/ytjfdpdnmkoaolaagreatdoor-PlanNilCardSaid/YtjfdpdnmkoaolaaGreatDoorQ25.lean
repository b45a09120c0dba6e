/- A piece of the run: armarium/vault.Mount 5216 6824. -/
import Derived.Test.YtjfdpdnmkoaolaaGreatDoorQ21
import Derived.Test.YtjfdpdnmkoaolaaGreatDoorQ24
set_option linter.all false
namespace Go.Proofs.YtjfdpdnmkoaolaaGreatDoor
open Go
noncomputable section
def pc5 : CE := ⟨49, [(Pt 102 0)], 5216, [(0, gFirst.2.obj),
 (1, gK.2.obj),
 (2, gBr),
 (4, gHalves.2.obj),
 (101, (.chan 429 ⟨([(Ag qr4), (Ag qr3), (Ag qr0), (Ag qr5), (Ag qr6), (Ag qr7)] ++ (List.replicate 92 (Ag qr0)) ++ [(Ag qr2)] ++ (List.replicate 83 (Ag qr0)))⟩ false 512 0 false)),
 (102, (.cells ⟨[(.int .i64 (.negSucc 0)), e0, (Sx 101 0 182 182), s0, ff, (U 74)]⟩ 184 (0, 0)))], (Tu [(Pt 6823 0), (I 0)]), 6824, [(0, gFirst.2.obj),
 (1, gK.2.obj),
 (2, gBr),
 (4, gHalves.2.obj),
 (101, (.chan 429 ⟨([(Ag qr4), (Ag qr13), (Ag qr0), (Ag qr5), (Ag qr6), (Ag qr7)] ++ (List.replicate 92 (Ag qr0)) ++ [(Ag qr12)] ++ (List.replicate 83 (Ag qr0)))⟩ false 512 0 false)),
 (102, (.cells ⟨[(.int .i64 (.negSucc 0)), e0, (Sx 101 0 182 182), s0, ff, (U 79)]⟩ 184 (0, 0))),
 (6007, (.cells ⟨[(Pt 102 0), (U 3), (U 4), (I 96), (St [0, 64, 0, 4]), (I 1), (U 4), (I 0), ff]⟩ 368 (0, 0))),
 (6037, (.map ⟨[⟨(I 0), (Ag qr12), 0⟩, ⟨(I 1), (Ag qr0), 1⟩]⟩ 2)),
 (6038, (.map ⟨[]⟩ 0)),
 (6039, (.map ⟨[]⟩ 0)),
 (6040, (.cells ⟨[(Pt 6007 0), (Pt 102 0), (I 64), (St [0, 4]), (Mp 6037), (Mp 6038), (Mp 6039), ff]⟩ 276 (0, 0))),
 (6436, (.cells ⟨[(Pt 6040 0), (Pt 6040 0), (I 32), (I 4), (I 0), (Pt 6040 0), (I 32), (I 6), (I 0), (Pt 6040 0), (I 4), (I 4), (I 0), (Pt 6040 0), (I 17), (I 33), (I 0), (Pt 6040 0), (I 1), (I 1), (I 0), (Pt 6040 0), (I 32), (I 5), (I 0), (Pt 6040 0), (I 33), (I 4), (I 0), (Pt 6040 0), (I 2), (I 5), (I 0), ff, (I 0)]⟩ 208 (0, 0))),
 (6782, (.cells ⟨[(Pt 6436 0), (I 4)]⟩ 122 (0, 0))),
 (6823, (.cells ⟨[(Pt 6782 0)]⟩ 173 (0, 0)))]⟩
def Ev5 : Env := E2.more (pieceOf [pc4])
theorem Ev5_ok : Ev5.Ok := pieces_more fun c hc args s h => by
  simp only [List.mem_cons, List.not_mem_nil, or_false] at hc
  subst hc
  exact pc4_call h
set_option maxRecDepth 1000000 in
theorem pc5_ok : pc5.good Ev5 1000000 = true := by kernel_rfl
theorem pc5_call {args : List Value} {s : AS} (h : pc5.is args s = true) : CallOk E2 pc5.f args s pc5.v (pc5.to s) := piece_ok (E := Ev5) Ev5_ok pc5_ok h
end
end Go.Proofs.YtjfdpdnmkoaolaaGreatDoor
