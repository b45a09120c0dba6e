/- A piece of the run: (*armarium/forest.Forest).Do 26758 28289. A piece of the run: (*armarium/forest.Forest).Do 28289 33940. A piece of the run: (*armarium/forest.Forest).Do 33940 36923. -/
import Derived.Test.YtdcioacjhpnihaaGreatDoorQ22
set_option linter.all false
namespace Go.Proofs.YtdcioacjhpnihaaGreatDoor
open Go
noncomputable section
def pc12 : CE := ⟨20, [(Pt 6434 0), (Fn 155 [] [(Pt 26750 0)])], 26758, [(1, gFirst.2.obj),
 (2, gK.2.obj),
 (3, gBr),
 (4, gHalves.2.obj),
 (100, (.chan 427 ⟨([(Ag qr4), (Ag qr13), (Ag qr0), (Ag qr5), (Ag qr6), (Ag qr7), (Ag qr14), (Ag qr15), (Ag qr16), (Ag qr17), (Ag qr27), (Ag qr28), (Ag qr29), (Ag qr30), (Ag qr31), (Ag qr32), (Ag qr33), (Ag qr40), (Ag qr41), (Ag qr42), (Ag qr43)] ++ (List.replicate 77 (Ag qr0)) ++ [(Ag qr12)] ++ (List.replicate 64 (Ag qr0)) ++ [(Ag qr34)] ++ (List.replicate 18 (Ag qr0)))⟩ false 512 0 false)),
 (101, (.cells ⟨[(.int .i64 (.negSucc 0)), e0, (Sx 100 0 182 182), s0, ff, (U 99)]⟩ 159 (0, 0))),
 (6005, (.cells ⟨[(Pt 101 0), (U 3), (U 4), (I 96), (St [0, 64, 0, 4]), (I 1), (U 19), (I 15), ff]⟩ 376 (0, 0))),
 (6035, (.chan 0 ⟨[(Tu [(I 2), (Ag qr19)]), (Tu [(I 3), (Ag qr36)]), (Tu [(I 4), (Ag qr37)]), (Tu [(I 5), (Ag qr38)]), (Tu [(I 0), (Ag qr44)]), (Tu [(I 6), (Ag qr45)]), (Tu [(I 1), (Ag qr46)])]⟩ true 0 0 false)),
 (6036, (.chan 0 ⟨[(Tu [(I 2), tt]), (Tu [(I 3), tt]), (Tu [(I 4), tt]), (Tu [(I 5), tt]), (Tu [(I 0), tt]), (Tu [(I 6), tt]), (Tu [(I 1), tt])]⟩ true 0 0 false)),
 (6037, (.map ⟨[]⟩ 12)),
 (6038, (.cells ⟨[(Pt 6005 0), (Pt 101 0), (I 64), (St [0, 4]), (Mp 6035), (Mp 6036), (Mp 6037), ff]⟩ 240 (0, 0))),
 (6434, (.cells ⟨[(Pt 6038 0), (Pt 6038 0), (I 32), (I 4), (I 5), (Pt 6038 0), (I 32), (I 6), (I 4), (Pt 6038 0), (I 4), (I 4), (I 0), (Pt 6038 0), (I 17), (I 33), (I 6), (Pt 6038 0), (I 1), (I 1), (I 0), (Pt 6038 0), (I 32), (I 5), (I 0), (Pt 6038 0), (I 33), (I 4), (I 0), (Pt 6038 0), (I 2), (I 5), (I 3), ff, (I 0)]⟩ 141 (0, 0))),
 (26750, (.cells ⟨[(Pt 6434 0)]⟩ 89 (0, 0)))], (I 0), 28289, [(1, gFirst.2.obj),
 (2, gK.2.obj),
 (3, gBr),
 (4, gHalves.2.obj),
 (100, (.chan 427 ⟨([(Ag qr4), (Ag qr13), (Ag qr0), (Ag qr5), (Ag qr6), (Ag qr7), (Ag qr14), (Ag qr15), (Ag qr16), (Ag qr17), (Ag qr27), (Ag qr28), (Ag qr29), (Ag qr30), (Ag qr31), (Ag qr32), (Ag qr33), (Ag qr40), (Ag qr41), (Ag qr42), (Ag qr43), (Ag qr49), (Ag qr50), (Ag qr51), (Ag qr52)] ++ (List.replicate 73 (Ag qr0)) ++ [(Ag qr12)] ++ (List.replicate 64 (Ag qr0)) ++ [(Ag qr34)] ++ (List.replicate 18 (Ag qr0)))⟩ false 512 0 false)),
 (101, (.cells ⟨[(.int .i64 (.negSucc 0)), e0, (Sx 100 0 182 182), s0, ff, (U 104)]⟩ 159 (0, 0))),
 (6005, (.cells ⟨[(Pt 101 0), (U 3), (U 4), (I 96), (St [0, 64, 0, 4]), (I 1), (U 23), (I 19), ff]⟩ 376 (0, 0))),
 (6035, (.chan 0 ⟨[(Tu [(I 3), (Ag qr36)]), (Tu [(I 4), (Ag qr37)]), (Tu [(I 5), (Ag qr38)]), (Tu [(I 6), (Ag qr45)]), (Tu [(I 0), (Ag qr35)]), (Tu [(I 2), (Ag qr19)]), (Tu [(I 1), (Ag qr53)])]⟩ true 0 0 false)),
 (6036, (.chan 0 ⟨[(Tu [(I 3), tt]), (Tu [(I 4), tt]), (Tu [(I 5), tt]), (Tu [(I 6), tt]), (Tu [(I 0), tt]), (Tu [(I 2), tt]), (Tu [(I 1), tt])]⟩ true 0 0 false)),
 (6037, (.map ⟨[]⟩ 15)),
 (6038, (.cells ⟨[(Pt 6005 0), (Pt 101 0), (I 64), (St [0, 4]), (Mp 6035), (Mp 6036), (Mp 6037), ff]⟩ 240 (0, 0))),
 (6434, (.cells ⟨[(Pt 6038 0), (Pt 6038 0), (I 32), (I 4), (I 5), (Pt 6038 0), (I 32), (I 6), (I 4), (Pt 6038 0), (I 4), (I 4), (I 0), (Pt 6038 0), (I 17), (I 33), (I 6), (Pt 6038 0), (I 1), (I 1), (I 2), (Pt 6038 0), (I 32), (I 5), (I 0), (Pt 6038 0), (I 33), (I 4), (I 0), (Pt 6038 0), (I 2), (I 5), (I 3), ff, (I 0)]⟩ 141 (0, 0))),
 (26750, (.cells ⟨[(Pt 6434 0)]⟩ 89 (0, 0)))]⟩
set_option maxRecDepth 1000000 in
theorem pc12_ok : pc12.good E2 1000000 = true := by kernel_rfl
theorem pc12_call {args : List Value} {s : AS} (h : pc12.is args s = true) : CallOk E2 pc12.f args s pc12.v (pc12.to s) := piece_ok (E := E2) E2_ok pc12_ok h
end
end Go.Proofs.YtdcioacjhpnihaaGreatDoor
namespace Go.Proofs.YtdcioacjhpnihaaGreatDoor
open Go
noncomputable section
def pc13 : CE := ⟨20, [(Pt 6434 0), (Fn 156 [] [(Pt 26748 0), (Pt 26753 0), (Pt 26751 0)])], 28289, [(1, gFirst.2.obj),
 (2, gK.2.obj),
 (3, gBr),
 (4, gHalves.2.obj),
 (100, (.chan 427 ⟨([(Ag qr4), (Ag qr13), (Ag qr0), (Ag qr5), (Ag qr6), (Ag qr7), (Ag qr14), (Ag qr15), (Ag qr16), (Ag qr17), (Ag qr27), (Ag qr28), (Ag qr29), (Ag qr30), (Ag qr31), (Ag qr32), (Ag qr33), (Ag qr40), (Ag qr41), (Ag qr42), (Ag qr43), (Ag qr49), (Ag qr50), (Ag qr51), (Ag qr52)] ++ (List.replicate 73 (Ag qr0)) ++ [(Ag qr12)] ++ (List.replicate 64 (Ag qr0)) ++ [(Ag qr34)] ++ (List.replicate 18 (Ag qr0)))⟩ false 512 0 false)),
 (101, (.cells ⟨[(.int .i64 (.negSucc 0)), e0, (Sx 100 0 182 182), s0, ff, (U 104)]⟩ 159 (0, 0))),
 (6005, (.cells ⟨[(Pt 101 0), (U 3), (U 4), (I 96), (St [0, 64, 0, 4]), (I 1), (U 23), (I 19), ff]⟩ 376 (0, 0))),
 (6035, (.chan 0 ⟨[(Tu [(I 3), (Ag qr36)]), (Tu [(I 4), (Ag qr37)]), (Tu [(I 5), (Ag qr38)]), (Tu [(I 6), (Ag qr45)]), (Tu [(I 0), (Ag qr35)]), (Tu [(I 2), (Ag qr19)]), (Tu [(I 1), (Ag qr53)])]⟩ true 0 0 false)),
 (6036, (.chan 0 ⟨[(Tu [(I 3), tt]), (Tu [(I 4), tt]), (Tu [(I 5), tt]), (Tu [(I 6), tt]), (Tu [(I 0), tt]), (Tu [(I 2), tt]), (Tu [(I 1), tt])]⟩ true 0 0 false)),
 (6037, (.map ⟨[]⟩ 15)),
 (6038, (.cells ⟨[(Pt 6005 0), (Pt 101 0), (I 64), (St [0, 4]), (Mp 6035), (Mp 6036), (Mp 6037), ff]⟩ 240 (0, 0))),
 (6434, (.cells ⟨[(Pt 6038 0), (Pt 6038 0), (I 32), (I 4), (I 5), (Pt 6038 0), (I 32), (I 6), (I 4), (Pt 6038 0), (I 4), (I 4), (I 0), (Pt 6038 0), (I 17), (I 33), (I 6), (Pt 6038 0), (I 1), (I 1), (I 2), (Pt 6038 0), (I 32), (I 5), (I 0), (Pt 6038 0), (I 33), (I 4), (I 0), (Pt 6038 0), (I 2), (I 5), (I 3), ff, (I 0)]⟩ 141 (0, 0))),
 (6780, (.cells ⟨[(Pt 6434 0), (I 4)]⟩ 133 (0, 0))),
 (26748, (.cells ⟨[(Pt 6780 0)]⟩ 37 (0, 0))),
 (26751, (.cells ⟨qr26⟩ 84 (0, 0))),
 (26753, (.cells ⟨[(St [1, 104, 111])]⟩ 9 (0, 0)))], (I 0), 33940, [(1, gFirst.2.obj),
 (2, gK.2.obj),
 (3, gBr),
 (4, gHalves.2.obj),
 (100, (.chan 427 ⟨([(Ag qr4), (Ag qr13), (Ag qr0), (Ag qr5), (Ag qr6), (Ag qr7), (Ag qr14), (Ag qr15), (Ag qr16), (Ag qr17), (Ag qr27), (Ag qr28), (Ag qr29), (Ag qr30), (Ag qr31), (Ag qr32), (Ag qr33), (Ag qr40), (Ag qr41), (Ag qr42), (Ag qr43), (Ag qr49), (Ag qr50), (Ag qr51), (Ag qr52), (Ag qr56), (Ag qr57), (Ag qr58), (Ag qr59), (Ag qr60), (Ag qr61), (Ag qr62)] ++ (List.replicate 66 (Ag qr0)) ++ [(Ag qr12)] ++ (List.replicate 64 (Ag qr0)) ++ [(Ag qr63)] ++ (List.replicate 18 (Ag qr0)))⟩ false 512 0 false)),
 (101, (.cells ⟨[(.int .i64 (.negSucc 0)), e0, (Sx 100 0 182 182), s0, ff, (U 114)]⟩ 159 (0, 0))),
 (6005, (.cells ⟨[(Pt 101 0), (U 3), (U 4), (I 96), (St [0, 64, 0, 4]), (I 1), (U 30), (I 26), ff]⟩ 376 (0, 0))),
 (6035, (.chan 0 ⟨[(Tu [(I 6), (Ag qr45)]), (Tu [(I 2), (Ag qr19)]), (Tu [(I 3), (Ag qr64)]), (Tu [(I 4), (Ag qr65)]), (Tu [(I 5), (Ag qr66)]), (Tu [(I 0), (Ag qr67)]), (Tu [(I 7), (Ag qr68)]), (Tu [(I 1), (Ag qr69)])]⟩ true 0 0 false)),
 (6036, (.chan 0 ⟨[(Tu [(I 6), tt]), (Tu [(I 2), tt]), (Tu [(I 3), tt]), (Tu [(I 4), tt]), (Tu [(I 5), tt]), (Tu [(I 0), tt]), (Tu [(I 7), tt]), (Tu [(I 1), tt])]⟩ true 0 0 false)),
 (6037, (.map ⟨[]⟩ 21)),
 (6038, (.cells ⟨[(Pt 6005 0), (Pt 101 0), (I 64), (St [0, 4]), (Mp 6035), (Mp 6036), (Mp 6037), ff]⟩ 240 (0, 0))),
 (6434, (.cells ⟨[(Pt 6038 0), (Pt 6038 0), (I 32), (I 4), (I 5), (Pt 6038 0), (I 32), (I 6), (I 4), (Pt 6038 0), (I 4), (I 4), (I 0), (Pt 6038 0), (I 17), (I 33), (I 6), (Pt 6038 0), (I 1), (I 1), (I 2), (Pt 6038 0), (I 32), (I 5), (I 7), (Pt 6038 0), (I 33), (I 4), (I 0), (Pt 6038 0), (I 2), (I 5), (I 3), ff, (I 0)]⟩ 141 (0, 0))),
 (6780, (.cells ⟨[(Pt 6434 0), (I 4)]⟩ 133 (0, 0))),
 (26748, (.cells ⟨[(Pt 6780 0)]⟩ 37 (0, 0))),
 (26751, (.cells ⟨qr55⟩ 84 (0, 0))),
 (26753, (.cells ⟨[(St [1, 104, 111])]⟩ 9 (0, 0)))]⟩
set_option maxRecDepth 1000000 in
theorem pc13_ok : pc13.good E2 1000000 = true := by kernel_rfl
theorem pc13_call {args : List Value} {s : AS} (h : pc13.is args s = true) : CallOk E2 pc13.f args s pc13.v (pc13.to s) := piece_ok (E := E2) E2_ok pc13_ok h
end
end Go.Proofs.YtdcioacjhpnihaaGreatDoor
namespace Go.Proofs.YtdcioacjhpnihaaGreatDoor
open Go
noncomputable section
def pc14 : CE := ⟨20, [(Pt 6434 0), (Fn 158 [] [(Pt 26748 0), (Pt 26751 0), (Pt 26750 0), (Pt 26749 0)])], 33940, [(1, gFirst.2.obj),
 (2, gK.2.obj),
 (3, gBr),
 (4, gHalves.2.obj),
 (100, (.chan 427 ⟨([(Ag qr4), (Ag qr13), (Ag qr0), (Ag qr5), (Ag qr6), (Ag qr7), (Ag qr14), (Ag qr15), (Ag qr16), (Ag qr17), (Ag qr27), (Ag qr28), (Ag qr29), (Ag qr30), (Ag qr31), (Ag qr32), (Ag qr33), (Ag qr40), (Ag qr41), (Ag qr42), (Ag qr43), (Ag qr49), (Ag qr50), (Ag qr51), (Ag qr52), (Ag qr56), (Ag qr57), (Ag qr58), (Ag qr59), (Ag qr60), (Ag qr61), (Ag qr62)] ++ (List.replicate 66 (Ag qr0)) ++ [(Ag qr12)] ++ (List.replicate 64 (Ag qr0)) ++ [(Ag qr63)] ++ (List.replicate 18 (Ag qr0)))⟩ false 512 0 false)),
 (101, (.cells ⟨[(.int .i64 (.negSucc 0)), e0, (Sx 100 0 182 182), s0, ff, (U 114)]⟩ 159 (0, 0))),
 (6005, (.cells ⟨[(Pt 101 0), (U 3), (U 4), (I 96), (St [0, 64, 0, 4]), (I 1), (U 30), (I 26), ff]⟩ 376 (0, 0))),
 (6035, (.chan 0 ⟨[(Tu [(I 6), (Ag qr45)]), (Tu [(I 2), (Ag qr19)]), (Tu [(I 3), (Ag qr64)]), (Tu [(I 4), (Ag qr65)]), (Tu [(I 5), (Ag qr66)]), (Tu [(I 0), (Ag qr67)]), (Tu [(I 7), (Ag qr68)]), (Tu [(I 1), (Ag qr69)])]⟩ true 0 0 false)),
 (6036, (.chan 0 ⟨[(Tu [(I 6), tt]), (Tu [(I 2), tt]), (Tu [(I 3), tt]), (Tu [(I 4), tt]), (Tu [(I 5), tt]), (Tu [(I 0), tt]), (Tu [(I 7), tt]), (Tu [(I 1), tt])]⟩ true 0 0 false)),
 (6037, (.map ⟨[]⟩ 21)),
 (6038, (.cells ⟨[(Pt 6005 0), (Pt 101 0), (I 64), (St [0, 4]), (Mp 6035), (Mp 6036), (Mp 6037), ff]⟩ 240 (0, 0))),
 (6434, (.cells ⟨[(Pt 6038 0), (Pt 6038 0), (I 32), (I 4), (I 5), (Pt 6038 0), (I 32), (I 6), (I 4), (Pt 6038 0), (I 4), (I 4), (I 0), (Pt 6038 0), (I 17), (I 33), (I 6), (Pt 6038 0), (I 1), (I 1), (I 2), (Pt 6038 0), (I 32), (I 5), (I 7), (Pt 6038 0), (I 33), (I 4), (I 0), (Pt 6038 0), (I 2), (I 5), (I 3), ff, (I 0)]⟩ 141 (0, 0))),
 (6780, (.cells ⟨[(Pt 6434 0), (I 4)]⟩ 133 (0, 0))),
 (26748, (.cells ⟨[(Pt 6780 0)]⟩ 37 (0, 0))),
 (26749, (.cells ⟨[(St [98])]⟩ 9 (0, 0))),
 (26750, (.cells ⟨[(Pt 6434 0)]⟩ 89 (0, 0))),
 (26751, (.cells ⟨qr55⟩ 84 (0, 0)))], (I 0), 36923, [(1, gFirst.2.obj),
 (2, gK.2.obj),
 (3, gBr),
 (4, gHalves.2.obj),
 (100, (.chan 427 ⟨([(Ag qr4), (Ag qr13), (Ag qr0), (Ag qr5), (Ag qr6), (Ag qr7), (Ag qr14), (Ag qr15), (Ag qr16), (Ag qr17), (Ag qr27), (Ag qr28), (Ag qr29), (Ag qr30), (Ag qr31), (Ag qr32), (Ag qr33), (Ag qr40), (Ag qr41), (Ag qr42), (Ag qr43), (Ag qr49), (Ag qr50), (Ag qr51), (Ag qr52), (Ag qr56), (Ag qr57), (Ag qr58), (Ag qr59), (Ag qr60), (Ag qr61), (Ag qr62), (Ag qr70), (Ag qr71), (Ag qr72), (Ag qr73)] ++ (List.replicate 62 (Ag qr0)) ++ [(Ag qr12)] ++ (List.replicate 64 (Ag qr0)) ++ [(Ag qr63)] ++ (List.replicate 18 (Ag qr0)))⟩ false 512 0 false)),
 (101, (.cells ⟨[(.int .i64 (.negSucc 0)), e0, (Sx 100 0 182 182), s0, ff, (U 119)]⟩ 159 (0, 0))),
 (6005, (.cells ⟨[(Pt 101 0), (U 3), (U 4), (I 96), (St [0, 64, 0, 4]), (I 1), (U 34), (I 30), ff]⟩ 376 (0, 0))),
 (6035, (.chan 0 ⟨[(Tu [(I 2), (Ag qr19)]), (Tu [(I 3), (Ag qr64)]), (Tu [(I 4), (Ag qr65)]), (Tu [(I 5), (Ag qr66)]), (Tu [(I 7), (Ag qr68)]), (Tu [(I 0), (Ag qr44)]), (Tu [(I 6), (Ag qr74)]), (Tu [(I 1), (Ag qr46)])]⟩ true 0 0 false)),
 (6036, (.chan 0 ⟨[(Tu [(I 2), tt]), (Tu [(I 3), tt]), (Tu [(I 4), tt]), (Tu [(I 5), tt]), (Tu [(I 7), tt]), (Tu [(I 0), tt]), (Tu [(I 6), tt]), (Tu [(I 1), tt])]⟩ true 0 0 false)),
 (6037, (.map ⟨[]⟩ 24)),
 (6038, (.cells ⟨[(Pt 6005 0), (Pt 101 0), (I 64), (St [0, 4]), (Mp 6035), (Mp 6036), (Mp 6037), ff]⟩ 240 (0, 0))),
 (6434, (.cells ⟨[(Pt 6038 0), (Pt 6038 0), (I 32), (I 4), (I 5), (Pt 6038 0), (I 32), (I 6), (I 4), (Pt 6038 0), (I 4), (I 4), (I 0), (Pt 6038 0), (I 17), (I 33), (I 6), (Pt 6038 0), (I 1), (I 1), (I 0), (Pt 6038 0), (I 32), (I 5), (I 0), (Pt 6038 0), (I 33), (I 4), (I 0), (Pt 6038 0), (I 2), (I 5), (I 3), ff, (I 0)]⟩ 141 (0, 0))),
 (6780, (.cells ⟨[(Pt 6434 0), (I 4)]⟩ 133 (0, 0))),
 (26748, (.cells ⟨[(Pt 6780 0)]⟩ 37 (0, 0))),
 (26749, (.cells ⟨[(St [98])]⟩ 9 (0, 0))),
 (26750, (.cells ⟨[(Pt 6434 0)]⟩ 89 (0, 0))),
 (26751, (.cells ⟨qr55⟩ 84 (0, 0)))]⟩
set_option maxRecDepth 1000000 in
theorem pc14_ok : pc14.good E2 1000000 = true := by kernel_rfl
theorem pc14_call {args : List Value} {s : AS} (h : pc14.is args s = true) : CallOk E2 pc14.f args s pc14.v (pc14.to s) := piece_ok (E := E2) E2_ok pc14_ok h
end
end Go.Proofs.YtdcioacjhpnihaaGreatDoor
