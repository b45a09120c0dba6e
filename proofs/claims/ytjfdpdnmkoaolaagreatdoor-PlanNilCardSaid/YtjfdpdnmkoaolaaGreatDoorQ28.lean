/- A piece of the run: (*armarium/forest.Forest).Do 13139 19597. -/
import Derived.Test.YtjfdpdnmkoaolaaGreatDoorQ21
set_option linter.all false
namespace Go.Proofs.YtjfdpdnmkoaolaaGreatDoor
open Go
noncomputable section
def pc8 : CE := ⟨99, [(Pt 6436 0), (Fn 163 [] [(Pt 7329 0), (Pt 7337 0), (Pt 7332 0)])], 13139, [(0, gFirst.2.obj),
 (1, gK.2.obj),
 (2, gBr),
 (4, gHalves.2.obj),
 (101, (.chan 429 ⟨([(Ag qr4), (Ag qr13), (Ag qr0), (Ag qr5), (Ag qr6), (Ag qr7), (Ag qr18), (Ag qr19), (Ag qr20), (Ag qr21), (Ag qr29), (Ag qr30), (Ag qr31), (Ag qr32), (Ag qr33), (Ag qr34), (Ag qr35)] ++ (List.replicate 81 (Ag qr0)) ++ [(Ag qr12)] ++ (List.replicate 64 (Ag qr0)) ++ [(Ag qr36)] ++ (List.replicate 18 (Ag qr0)))⟩ false 512 0 false)),
 (102, (.cells ⟨[(.int .i64 (.negSucc 0)), e0, (Sx 101 0 182 182), s0, ff, (U 94)]⟩ 184 (0, 0))),
 (6007, (.cells ⟨[(Pt 102 0), (U 3), (U 4), (I 96), (St [0, 64, 0, 4]), (I 1), (U 15), (I 11), ff]⟩ 368 (0, 0))),
 (6037, (.chan 0 ⟨[(Tu [(I 2), (Ag qr23)]), (Tu [(I 0), (Ag qr37)]), (Tu [(I 3), (Ag qr38)]), (Tu [(I 4), (Ag qr39)]), (Tu [(I 5), (Ag qr40)]), (Tu [(I 6), (Ag qr40)]), (Tu [(I 1), (Ag qr41)])]⟩ true 0 0 false)),
 (6038, (.chan 0 ⟨[(Tu [(I 2), tt]), (Tu [(I 0), tt]), (Tu [(I 3), tt]), (Tu [(I 4), tt]), (Tu [(I 5), tt]), (Tu [(I 6), tt]), (Tu [(I 1), tt])]⟩ true 0 0 false)),
 (6039, (.map ⟨[]⟩ 9)),
 (6040, (.cells ⟨[(Pt 6007 0), (Pt 102 0), (I 64), (St [0, 4]), (Mp 6037), (Mp 6038), (Mp 6039), ff]⟩ 276 (0, 0))),
 (6436, (.cells ⟨[(Pt 6040 0), (Pt 6040 0), (I 32), (I 4), (I 5), (Pt 6040 0), (I 32), (I 6), (I 4), (Pt 6040 0), (I 4), (I 4), (I 0), (Pt 6040 0), (I 17), (I 33), (I 0), (Pt 6040 0), (I 1), (I 1), (I 2), (Pt 6040 0), (I 32), (I 5), (I 6), (Pt 6040 0), (I 33), (I 4), (I 0), (Pt 6040 0), (I 2), (I 5), (I 3), ff, (I 0)]⟩ 208 (0, 0))),
 (6782, (.cells ⟨[(Pt 6436 0), (I 4)]⟩ 122 (0, 0))),
 (7329, (.cells ⟨[(Pt 6782 0)]⟩ 34 (0, 0))),
 (7332, (.cells ⟨qr15⟩ 72 (0, 0))),
 (7337, (.cells ⟨[(St qt16)]⟩ 9 (0, 0)))], (I 0), 19597, [(0, gFirst.2.obj),
 (1, gK.2.obj),
 (2, gBr),
 (4, gHalves.2.obj),
 (101, (.chan 429 ⟨([(Ag qr4), (Ag qr13), (Ag qr0), (Ag qr5), (Ag qr6), (Ag qr7), (Ag qr18), (Ag qr19), (Ag qr20), (Ag qr21), (Ag qr29), (Ag qr30), (Ag qr31), (Ag qr32), (Ag qr33), (Ag qr34), (Ag qr35), (Ag qr42), (Ag qr43), (Ag qr44), (Ag qr45), (Ag qr46), (Ag qr47)] ++ (List.replicate 75 (Ag qr0)) ++ [(Ag qr12)] ++ (List.replicate 64 (Ag qr0)) ++ [(Ag qr48)] ++ (List.replicate 18 (Ag qr0)))⟩ false 512 0 false)),
 (102, (.cells ⟨[(.int .i64 (.negSucc 0)), e0, (Sx 101 0 182 182), s0, ff, (U 103)]⟩ 184 (0, 0))),
 (6007, (.cells ⟨[(Pt 102 0), (U 3), (U 4), (I 96), (St [0, 64, 0, 4]), (I 1), (U 21), (I 17), ff]⟩ 368 (0, 0))),
 (6037, (.chan 0 ⟨[(Tu [(I 2), (Ag qr23)]), (Tu [(I 1), (Ag qr41)]), (Tu [(I 0), (Ag qr37)]), (Tu [(I 3), (Ag qr49)]), (Tu [(I 4), (Ag qr50)]), (Tu [(I 5), (Ag qr51)]), (Tu [(I 6), (Ag qr52)])]⟩ true 0 0 false)),
 (6038, (.chan 0 ⟨[(Tu [(I 2), tt]), (Tu [(I 1), tt]), (Tu [(I 0), tt]), (Tu [(I 3), tt]), (Tu [(I 4), tt]), (Tu [(I 5), tt]), (Tu [(I 6), tt])]⟩ true 0 0 false)),
 (6039, (.map ⟨[]⟩ 14)),
 (6040, (.cells ⟨[(Pt 6007 0), (Pt 102 0), (I 64), (St [0, 4]), (Mp 6037), (Mp 6038), (Mp 6039), ff]⟩ 276 (0, 0))),
 (6436, (.cells ⟨[(Pt 6040 0), (Pt 6040 0), (I 32), (I 4), (I 5), (Pt 6040 0), (I 32), (I 6), (I 4), (Pt 6040 0), (I 4), (I 4), (I 0), (Pt 6040 0), (I 17), (I 33), (I 0), (Pt 6040 0), (I 1), (I 1), (I 2), (Pt 6040 0), (I 32), (I 5), (I 6), (Pt 6040 0), (I 33), (I 4), (I 0), (Pt 6040 0), (I 2), (I 5), (I 3), ff, (I 0)]⟩ 208 (0, 0))),
 (6782, (.cells ⟨[(Pt 6436 0), (I 4)]⟩ 122 (0, 0))),
 (7329, (.cells ⟨[(Pt 6782 0)]⟩ 34 (0, 0))),
 (7332, (.cells ⟨qr17⟩ 72 (0, 0))),
 (7337, (.cells ⟨[(St qt16)]⟩ 9 (0, 0)))]⟩
set_option maxRecDepth 1000000 in
theorem pc8_ok : pc8.good E2 1000000 = true := by kernel_rfl
theorem pc8_call {args : List Value} {s : AS} (h : pc8.is args s = true) : CallOk E2 pc8.f args s pc8.v (pc8.to s) := piece_ok (E := E2) E2_ok pc8_ok h
end
end Go.Proofs.YtjfdpdnmkoaolaaGreatDoor
