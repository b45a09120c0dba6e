/- A piece of the run: (*armarium/forest.Forest).Do 7342 8829. -/
import Derived.Test.YtjfdpdnmkoaolaaGreatDoorQ21
set_option linter.all false
namespace Go.Proofs.YtjfdpdnmkoaolaaGreatDoor
open Go
noncomputable section
def pc6 : CE := ⟨99, [(Pt 6436 0), (Fn 161 [] [(Pt 7331 0)])], 7342, [(0, gFirst.2.obj),
 (1, gK.2.obj),
 (2, gBr),
 (4, gHalves.2.obj),
 (101, (.chan 429 ⟨([(Ag qr4), (Ag qr13), (Ag qr0), (Ag qr5), (Ag qr6), (Ag qr7)] ++ (List.replicate 92 (Ag qr0)) ++ [(Ag qr12)] ++ (List.replicate 83 (Ag qr0)))⟩ false 512 0 false)),
 (102, (.cells ⟨[(.int .i64 (.negSucc 0)), e0, (Sx 101 0 182 182), s0, ff, (U 79)]⟩ 184 (0, 0))),
 (6007, (.cells ⟨[(Pt 102 0), (U 3), (U 4), (I 96), (St [0, 64, 0, 4]), (I 1), (U 4), (I 0), ff]⟩ 368 (0, 0))),
 (6037, (.map ⟨[⟨(I 0), (Ag qr12), 0⟩, ⟨(I 1), (Ag qr0), 1⟩]⟩ 2)),
 (6038, (.map ⟨[]⟩ 0)),
 (6039, (.map ⟨[]⟩ 0)),
 (6040, (.cells ⟨[(Pt 6007 0), (Pt 102 0), (I 64), (St [0, 4]), (Mp 6037), (Mp 6038), (Mp 6039), ff]⟩ 276 (0, 0))),
 (6436, (.cells ⟨[(Pt 6040 0), (Pt 6040 0), (I 32), (I 4), (I 0), (Pt 6040 0), (I 32), (I 6), (I 0), (Pt 6040 0), (I 4), (I 4), (I 0), (Pt 6040 0), (I 17), (I 33), (I 0), (Pt 6040 0), (I 1), (I 1), (I 0), (Pt 6040 0), (I 32), (I 5), (I 0), (Pt 6040 0), (I 33), (I 4), (I 0), (Pt 6040 0), (I 2), (I 5), (I 0), ff, (I 0)]⟩ 208 (0, 0))),
 (7331, (.cells ⟨[(Pt 6436 0)]⟩ 68 (0, 0)))], (I 0), 8829, [(0, gFirst.2.obj),
 (1, gK.2.obj),
 (2, gBr),
 (4, gHalves.2.obj),
 (101, (.chan 429 ⟨([(Ag qr4), (Ag qr13), (Ag qr0), (Ag qr5), (Ag qr6), (Ag qr7), (Ag qr18), (Ag qr19), (Ag qr20), (Ag qr21)] ++ (List.replicate 88 (Ag qr0)) ++ [(Ag qr12)] ++ (List.replicate 83 (Ag qr0)))⟩ false 512 0 false)),
 (102, (.cells ⟨[(.int .i64 (.negSucc 0)), e0, (Sx 101 0 182 182), s0, ff, (U 84)]⟩ 184 (0, 0))),
 (6007, (.cells ⟨[(Pt 102 0), (U 3), (U 4), (I 96), (St [0, 64, 0, 4]), (I 1), (U 8), (I 4), ff]⟩ 368 (0, 0))),
 (6037, (.chan 0 ⟨[(Tu [(I 0), (Ag qr22)]), (Tu [(I 2), (Ag qr23)]), (Tu [(I 1), (Ag qr24)])]⟩ true 0 0 false)),
 (6038, (.chan 0 ⟨[(Tu [(I 0), tt]), (Tu [(I 2), tt]), (Tu [(I 1), tt])]⟩ true 0 0 false)),
 (6039, (.map ⟨[]⟩ 3)),
 (6040, (.cells ⟨[(Pt 6007 0), (Pt 102 0), (I 64), (St [0, 4]), (Mp 6037), (Mp 6038), (Mp 6039), ff]⟩ 276 (0, 0))),
 (6436, (.cells ⟨[(Pt 6040 0), (Pt 6040 0), (I 32), (I 4), (I 0), (Pt 6040 0), (I 32), (I 6), (I 0), (Pt 6040 0), (I 4), (I 4), (I 0), (Pt 6040 0), (I 17), (I 33), (I 0), (Pt 6040 0), (I 1), (I 1), (I 2), (Pt 6040 0), (I 32), (I 5), (I 0), (Pt 6040 0), (I 33), (I 4), (I 0), (Pt 6040 0), (I 2), (I 5), (I 0), ff, (I 0)]⟩ 208 (0, 0))),
 (7331, (.cells ⟨[(Pt 6436 0)]⟩ 68 (0, 0)))]⟩
set_option maxRecDepth 1000000 in
theorem pc6_ok : pc6.good E2 1000000 = true := by kernel_rfl
theorem pc6_call {args : List Value} {s : AS} (h : pc6.is args s = true) : CallOk E2 pc6.f args s pc6.v (pc6.to s) := piece_ok (E := E2) E2_ok pc6_ok h
end
end Go.Proofs.YtjfdpdnmkoaolaaGreatDoor
