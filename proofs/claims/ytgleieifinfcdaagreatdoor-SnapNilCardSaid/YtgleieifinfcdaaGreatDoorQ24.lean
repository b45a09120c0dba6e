/- A piece of the run: (*armarium/forest.Forest).Do 7029 8516. -/
import Derived.Test.YtgleieifinfcdaaGreatDoorQ18
set_option linter.all false
namespace Go.Proofs.YtgleieifinfcdaaGreatDoor
open Go
noncomputable section
def pc7 : CE := ⟨20, [(Pt 6434 0), (Fn 45 [] [(Pt 7021 0)])], 7029, [(0, gFirst.2.obj),
 (1, gK.2.obj),
 (3, gBr),
 (4, gHalves.2.obj),
 (100, (.chan 450 ⟨([(Ag qr4), (Ag qr13), (Ag qr0), (Ag qr5), (Ag qr6), (Ag qr7)] ++ (List.replicate 92 (Ag qr0)) ++ [(Ag qr12)] ++ (List.replicate 83 (Ag qr0)))⟩ false 512 0 false)),
 (101, (.cells ⟨[(.int .i64 (.negSucc 0)), e0, (Sx 100 0 182 182), s0, ff, (U 79)]⟩ 212 (0, 0))),
 (6005, (.cells ⟨[(Pt 101 0), (U 3), (U 4), (I 96), (St [0, 64, 0, 4]), (I 1), (U 4), (I 0), ff]⟩ 429 (0, 0))),
 (6035, (.map ⟨[⟨(I 0), (Ag qr12), 0⟩, ⟨(I 1), (Ag qr0), 1⟩]⟩ 2)),
 (6036, (.map ⟨[]⟩ 0)),
 (6037, (.map ⟨[]⟩ 0)),
 (6038, (.cells ⟨[(Pt 6005 0), (Pt 101 0), (I 64), (St [0, 4]), (Mp 6035), (Mp 6036), (Mp 6037), ff]⟩ 247 (0, 0))),
 (6434, (.cells ⟨[(Pt 6038 0), (Pt 6038 0), (I 32), (I 4), (I 0), (Pt 6038 0), (I 32), (I 6), (I 0), (Pt 6038 0), (I 4), (I 4), (I 0), (Pt 6038 0), (I 17), (I 33), (I 0), (Pt 6038 0), (I 1), (I 1), (I 0), (Pt 6038 0), (I 32), (I 5), (I 0), (Pt 6038 0), (I 33), (I 4), (I 0), (Pt 6038 0), (I 2), (I 5), (I 0), ff, (I 0)]⟩ 133 (0, 0))),
 (7021, (.cells ⟨[(Pt 6434 0)]⟩ 81 (0, 0)))], (I 0), 8516, [(0, gFirst.2.obj),
 (1, gK.2.obj),
 (3, gBr),
 (4, gHalves.2.obj),
 (100, (.chan 450 ⟨([(Ag qr4), (Ag qr13), (Ag qr0), (Ag qr5), (Ag qr6), (Ag qr7), (Ag qr14), (Ag qr15), (Ag qr16), (Ag qr17)] ++ (List.replicate 88 (Ag qr0)) ++ [(Ag qr12)] ++ (List.replicate 83 (Ag qr0)))⟩ false 512 0 false)),
 (101, (.cells ⟨[(.int .i64 (.negSucc 0)), e0, (Sx 100 0 182 182), s0, ff, (U 84)]⟩ 212 (0, 0))),
 (6005, (.cells ⟨[(Pt 101 0), (U 3), (U 4), (I 96), (St [0, 64, 0, 4]), (I 1), (U 8), (I 4), ff]⟩ 429 (0, 0))),
 (6035, (.chan 0 ⟨[(Tu [(I 0), (Ag qr18)]), (Tu [(I 2), (Ag qr19)]), (Tu [(I 1), (Ag qr20)])]⟩ true 0 0 false)),
 (6036, (.chan 0 ⟨[(Tu [(I 0), tt]), (Tu [(I 2), tt]), (Tu [(I 1), tt])]⟩ true 0 0 false)),
 (6037, (.map ⟨[]⟩ 3)),
 (6038, (.cells ⟨[(Pt 6005 0), (Pt 101 0), (I 64), (St [0, 4]), (Mp 6035), (Mp 6036), (Mp 6037), ff]⟩ 247 (0, 0))),
 (6434, (.cells ⟨[(Pt 6038 0), (Pt 6038 0), (I 32), (I 4), (I 0), (Pt 6038 0), (I 32), (I 6), (I 0), (Pt 6038 0), (I 4), (I 4), (I 0), (Pt 6038 0), (I 17), (I 33), (I 0), (Pt 6038 0), (I 1), (I 1), (I 2), (Pt 6038 0), (I 32), (I 5), (I 0), (Pt 6038 0), (I 33), (I 4), (I 0), (Pt 6038 0), (I 2), (I 5), (I 0), ff, (I 0)]⟩ 133 (0, 0))),
 (7021, (.cells ⟨[(Pt 6434 0)]⟩ 81 (0, 0)))]⟩
set_option maxRecDepth 1000000 in
theorem pc7_ok : pc7.good E2 1000000 = true := by kernel_rfl
theorem pc7_call {args : List Value} {s : AS} (h : pc7.is args s = true) : CallOk E2 pc7.f args s pc7.v (pc7.to s) := piece_ok (E := E2) E2_ok pc7_ok h
end
end Go.Proofs.YtgleieifinfcdaaGreatDoor
