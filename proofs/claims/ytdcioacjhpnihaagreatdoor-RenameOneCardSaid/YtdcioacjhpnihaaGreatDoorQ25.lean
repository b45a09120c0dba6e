/- A piece of the run: (*armarium/forest.Forest).Do 8517 12827. A piece of the run: (*armarium/forest.Forest).Do 12827 15796. -/
import Derived.Test.YtdcioacjhpnihaaGreatDoorQ22
set_option linter.all false
namespace Go.Proofs.YtdcioacjhpnihaaGreatDoor
open Go
noncomputable section
def pc9 : CE := ⟨20, [(Pt 6434 0), (Fn 156 [] [(Pt 7020 0), (Pt 7025 0), (Pt 7023 0)])], 8517, [(1, gFirst.2.obj),
 (2, gK.2.obj),
 (3, gBr),
 (4, gHalves.2.obj),
 (100, (.chan 427 ⟨([(Ag qr4), (Ag qr13), (Ag qr0), (Ag qr5), (Ag qr6), (Ag qr7), (Ag qr14), (Ag qr15), (Ag qr16), (Ag qr17)] ++ (List.replicate 88 (Ag qr0)) ++ [(Ag qr12)] ++ (List.replicate 83 (Ag qr0)))⟩ false 512 0 false)),
 (101, (.cells ⟨[(.int .i64 (.negSucc 0)), e0, (Sx 100 0 182 182), s0, ff, (U 84)]⟩ 159 (0, 0))),
 (6005, (.cells ⟨[(Pt 101 0), (U 3), (U 4), (I 96), (St [0, 64, 0, 4]), (I 1), (U 8), (I 4), ff]⟩ 376 (0, 0))),
 (6035, (.chan 0 ⟨[(Tu [(I 0), (Ag qr18)]), (Tu [(I 2), (Ag qr19)]), (Tu [(I 1), (Ag qr20)])]⟩ true 0 0 false)),
 (6036, (.chan 0 ⟨[(Tu [(I 0), tt]), (Tu [(I 2), tt]), (Tu [(I 1), tt])]⟩ true 0 0 false)),
 (6037, (.map ⟨[]⟩ 3)),
 (6038, (.cells ⟨[(Pt 6005 0), (Pt 101 0), (I 64), (St [0, 4]), (Mp 6035), (Mp 6036), (Mp 6037), ff]⟩ 240 (0, 0))),
 (6434, (.cells ⟨[(Pt 6038 0), (Pt 6038 0), (I 32), (I 4), (I 0), (Pt 6038 0), (I 32), (I 6), (I 0), (Pt 6038 0), (I 4), (I 4), (I 0), (Pt 6038 0), (I 17), (I 33), (I 0), (Pt 6038 0), (I 1), (I 1), (I 2), (Pt 6038 0), (I 32), (I 5), (I 0), (Pt 6038 0), (I 33), (I 4), (I 0), (Pt 6038 0), (I 2), (I 5), (I 0), ff, (I 0)]⟩ 141 (0, 0))),
 (6780, (.cells ⟨[(Pt 6434 0), (I 4)]⟩ 133 (0, 0))),
 (7020, (.cells ⟨[(Pt 6780 0)]⟩ 37 (0, 0))),
 (7023, (.cells ⟨qr26⟩ 84 (0, 0))),
 (7025, (.cells ⟨[(St [1, 104, 105])]⟩ 9 (0, 0)))], (I 0), 12827, [(1, gFirst.2.obj),
 (2, gK.2.obj),
 (3, gBr),
 (4, gHalves.2.obj),
 (100, (.chan 427 ⟨([(Ag qr4), (Ag qr13), (Ag qr0), (Ag qr5), (Ag qr6), (Ag qr7), (Ag qr14), (Ag qr15), (Ag qr16), (Ag qr17), (Ag qr27), (Ag qr28), (Ag qr29), (Ag qr30), (Ag qr31), (Ag qr32), (Ag qr33)] ++ (List.replicate 81 (Ag qr0)) ++ [(Ag qr12)] ++ (List.replicate 64 (Ag qr0)) ++ [(Ag qr34)] ++ (List.replicate 18 (Ag qr0)))⟩ false 512 0 false)),
 (101, (.cells ⟨[(.int .i64 (.negSucc 0)), e0, (Sx 100 0 182 182), s0, ff, (U 94)]⟩ 159 (0, 0))),
 (6005, (.cells ⟨[(Pt 101 0), (U 3), (U 4), (I 96), (St [0, 64, 0, 4]), (I 1), (U 15), (I 11), ff]⟩ 376 (0, 0))),
 (6035, (.chan 0 ⟨[(Tu [(I 2), (Ag qr19)]), (Tu [(I 0), (Ag qr35)]), (Tu [(I 3), (Ag qr36)]), (Tu [(I 4), (Ag qr37)]), (Tu [(I 5), (Ag qr38)]), (Tu [(I 6), (Ag qr38)]), (Tu [(I 1), (Ag qr39)])]⟩ true 0 0 false)),
 (6036, (.chan 0 ⟨[(Tu [(I 2), tt]), (Tu [(I 0), tt]), (Tu [(I 3), tt]), (Tu [(I 4), tt]), (Tu [(I 5), tt]), (Tu [(I 6), tt]), (Tu [(I 1), tt])]⟩ true 0 0 false)),
 (6037, (.map ⟨[]⟩ 9)),
 (6038, (.cells ⟨[(Pt 6005 0), (Pt 101 0), (I 64), (St [0, 4]), (Mp 6035), (Mp 6036), (Mp 6037), ff]⟩ 240 (0, 0))),
 (6434, (.cells ⟨[(Pt 6038 0), (Pt 6038 0), (I 32), (I 4), (I 5), (Pt 6038 0), (I 32), (I 6), (I 4), (Pt 6038 0), (I 4), (I 4), (I 0), (Pt 6038 0), (I 17), (I 33), (I 0), (Pt 6038 0), (I 1), (I 1), (I 2), (Pt 6038 0), (I 32), (I 5), (I 6), (Pt 6038 0), (I 33), (I 4), (I 0), (Pt 6038 0), (I 2), (I 5), (I 3), ff, (I 0)]⟩ 141 (0, 0))),
 (6780, (.cells ⟨[(Pt 6434 0), (I 4)]⟩ 133 (0, 0))),
 (7020, (.cells ⟨[(Pt 6780 0)]⟩ 37 (0, 0))),
 (7023, (.cells ⟨qr22⟩ 84 (0, 0))),
 (7025, (.cells ⟨[(St [1, 104, 105])]⟩ 9 (0, 0)))]⟩
set_option maxRecDepth 1000000 in
theorem pc9_ok : pc9.good E2 1000000 = true := by kernel_rfl
theorem pc9_call {args : List Value} {s : AS} (h : pc9.is args s = true) : CallOk E2 pc9.f args s pc9.v (pc9.to s) := piece_ok (E := E2) E2_ok pc9_ok h
end
end Go.Proofs.YtdcioacjhpnihaaGreatDoor
namespace Go.Proofs.YtdcioacjhpnihaaGreatDoor
open Go
noncomputable section
def pc10 : CE := ⟨20, [(Pt 6434 0), (Fn 158 [] [(Pt 7020 0), (Pt 7023 0), (Pt 7022 0), (Pt 7021 0)])], 12827, [(1, gFirst.2.obj),
 (2, gK.2.obj),
 (3, gBr),
 (4, gHalves.2.obj),
 (100, (.chan 427 ⟨([(Ag qr4), (Ag qr13), (Ag qr0), (Ag qr5), (Ag qr6), (Ag qr7), (Ag qr14), (Ag qr15), (Ag qr16), (Ag qr17), (Ag qr27), (Ag qr28), (Ag qr29), (Ag qr30), (Ag qr31), (Ag qr32), (Ag qr33)] ++ (List.replicate 81 (Ag qr0)) ++ [(Ag qr12)] ++ (List.replicate 64 (Ag qr0)) ++ [(Ag qr34)] ++ (List.replicate 18 (Ag qr0)))⟩ false 512 0 false)),
 (101, (.cells ⟨[(.int .i64 (.negSucc 0)), e0, (Sx 100 0 182 182), s0, ff, (U 94)]⟩ 159 (0, 0))),
 (6005, (.cells ⟨[(Pt 101 0), (U 3), (U 4), (I 96), (St [0, 64, 0, 4]), (I 1), (U 15), (I 11), ff]⟩ 376 (0, 0))),
 (6035, (.chan 0 ⟨[(Tu [(I 2), (Ag qr19)]), (Tu [(I 0), (Ag qr35)]), (Tu [(I 3), (Ag qr36)]), (Tu [(I 4), (Ag qr37)]), (Tu [(I 5), (Ag qr38)]), (Tu [(I 6), (Ag qr38)]), (Tu [(I 1), (Ag qr39)])]⟩ true 0 0 false)),
 (6036, (.chan 0 ⟨[(Tu [(I 2), tt]), (Tu [(I 0), tt]), (Tu [(I 3), tt]), (Tu [(I 4), tt]), (Tu [(I 5), tt]), (Tu [(I 6), tt]), (Tu [(I 1), tt])]⟩ true 0 0 false)),
 (6037, (.map ⟨[]⟩ 9)),
 (6038, (.cells ⟨[(Pt 6005 0), (Pt 101 0), (I 64), (St [0, 4]), (Mp 6035), (Mp 6036), (Mp 6037), ff]⟩ 240 (0, 0))),
 (6434, (.cells ⟨[(Pt 6038 0), (Pt 6038 0), (I 32), (I 4), (I 5), (Pt 6038 0), (I 32), (I 6), (I 4), (Pt 6038 0), (I 4), (I 4), (I 0), (Pt 6038 0), (I 17), (I 33), (I 0), (Pt 6038 0), (I 1), (I 1), (I 2), (Pt 6038 0), (I 32), (I 5), (I 6), (Pt 6038 0), (I 33), (I 4), (I 0), (Pt 6038 0), (I 2), (I 5), (I 3), ff, (I 0)]⟩ 141 (0, 0))),
 (6780, (.cells ⟨[(Pt 6434 0), (I 4)]⟩ 133 (0, 0))),
 (7020, (.cells ⟨[(Pt 6780 0)]⟩ 37 (0, 0))),
 (7021, (.cells ⟨[(St [97])]⟩ 9 (0, 0))),
 (7022, (.cells ⟨[(Pt 6434 0)]⟩ 89 (0, 0))),
 (7023, (.cells ⟨qr22⟩ 84 (0, 0)))], (I 0), 15796, [(1, gFirst.2.obj),
 (2, gK.2.obj),
 (3, gBr),
 (4, gHalves.2.obj),
 (100, (.chan 427 ⟨([(Ag qr4), (Ag qr13), (Ag qr0), (Ag qr5), (Ag qr6), (Ag qr7), (Ag qr14), (Ag qr15), (Ag qr16), (Ag qr17), (Ag qr27), (Ag qr28), (Ag qr29), (Ag qr30), (Ag qr31), (Ag qr32), (Ag qr33), (Ag qr40), (Ag qr41), (Ag qr42), (Ag qr43)] ++ (List.replicate 77 (Ag qr0)) ++ [(Ag qr12)] ++ (List.replicate 64 (Ag qr0)) ++ [(Ag qr34)] ++ (List.replicate 18 (Ag qr0)))⟩ false 512 0 false)),
 (101, (.cells ⟨[(.int .i64 (.negSucc 0)), e0, (Sx 100 0 182 182), s0, ff, (U 99)]⟩ 159 (0, 0))),
 (6005, (.cells ⟨[(Pt 101 0), (U 3), (U 4), (I 96), (St [0, 64, 0, 4]), (I 1), (U 19), (I 15), ff]⟩ 376 (0, 0))),
 (6035, (.chan 0 ⟨[(Tu [(I 2), (Ag qr19)]), (Tu [(I 3), (Ag qr36)]), (Tu [(I 4), (Ag qr37)]), (Tu [(I 5), (Ag qr38)]), (Tu [(I 0), (Ag qr44)]), (Tu [(I 6), (Ag qr45)]), (Tu [(I 1), (Ag qr46)])]⟩ true 0 0 false)),
 (6036, (.chan 0 ⟨[(Tu [(I 2), tt]), (Tu [(I 3), tt]), (Tu [(I 4), tt]), (Tu [(I 5), tt]), (Tu [(I 0), tt]), (Tu [(I 6), tt]), (Tu [(I 1), tt])]⟩ true 0 0 false)),
 (6037, (.map ⟨[]⟩ 12)),
 (6038, (.cells ⟨[(Pt 6005 0), (Pt 101 0), (I 64), (St [0, 4]), (Mp 6035), (Mp 6036), (Mp 6037), ff]⟩ 240 (0, 0))),
 (6434, (.cells ⟨[(Pt 6038 0), (Pt 6038 0), (I 32), (I 4), (I 5), (Pt 6038 0), (I 32), (I 6), (I 4), (Pt 6038 0), (I 4), (I 4), (I 0), (Pt 6038 0), (I 17), (I 33), (I 6), (Pt 6038 0), (I 1), (I 1), (I 0), (Pt 6038 0), (I 32), (I 5), (I 0), (Pt 6038 0), (I 33), (I 4), (I 0), (Pt 6038 0), (I 2), (I 5), (I 3), ff, (I 0)]⟩ 141 (0, 0))),
 (6780, (.cells ⟨[(Pt 6434 0), (I 4)]⟩ 133 (0, 0))),
 (7020, (.cells ⟨[(Pt 6780 0)]⟩ 37 (0, 0))),
 (7021, (.cells ⟨[(St [97])]⟩ 9 (0, 0))),
 (7022, (.cells ⟨[(Pt 6434 0)]⟩ 89 (0, 0))),
 (7023, (.cells ⟨qr22⟩ 84 (0, 0)))]⟩
set_option maxRecDepth 1000000 in
theorem pc10_ok : pc10.good E2 1000000 = true := by kernel_rfl
theorem pc10_call {args : List Value} {s : AS} (h : pc10.is args s = true) : CallOk E2 pc10.f args s pc10.v (pc10.to s) := piece_ok (E := E2) E2_ok pc10_ok h
end
end Go.Proofs.YtdcioacjhpnihaaGreatDoor
