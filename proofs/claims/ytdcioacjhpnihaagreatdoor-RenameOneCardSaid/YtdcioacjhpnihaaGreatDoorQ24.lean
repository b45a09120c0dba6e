/- A piece of the run: armarium/armariumref03.Primes 6820 6948. A piece of the run: (*armarium/forest.Forest).Do 7030 8517. -/
import Derived.Test.YtdcioacjhpnihaaGreatDoorQ22
set_option linter.all false
namespace Go.Proofs.YtdcioacjhpnihaaGreatDoor
open Go
noncomputable section
def pc6 : CE := ⟨66, [(I 64)], 6820, [(1, gFirst.2.obj),
 (2, gK.2.obj),
 (3, gBr),
 (4, gHalves.2.obj)], (Sg 6947 0 0 64 64), 6948, [(1, gFirst.2.obj),
 (2, gK.2.obj),
 (3, gBr),
 (4, gHalves.2.obj),
 (6947, (.cells ⟨[(U 2), (U 3), (U 5), (U 7), (U 11), (U 13), (U 17), (U 19), (U 23), (U 29), (U 31), (U 37), (U 41), (U 43), (U 47), (U 53), (U 59), (U 61), (U 67), (U 71), (U 73), (U 79), (U 83), (U 89), (U 97), (U 101), (U 103), (U 107), (U 109), (U 113), (U 127), (U 131), (U 137), (U 139), (U 149), (U 151), (U 157), (U 163), (U 167), (U 173), (U 179), (U 181), (U 191), (U 193), (U 197), (U 199), (U 211), (U 223), (U 227), (U 229), (U 233), (U 239), (U 241), (U 251), (U 257), (U 263), (U 269), (U 271), (U 277), (U 281), (U 283), (U 293), (U 307), (U 311)]⟩ 157 (0, 0)))]⟩
set_option maxRecDepth 1000000 in
theorem pc6_ok : pc6.good E2 1000000 = true := by kernel_rfl
theorem pc6_call {args : List Value} {s : AS} (h : pc6.is args s = true) : CallOk E2 pc6.f args s pc6.v (pc6.to s) := piece_ok (E := E2) E2_ok pc6_ok h
end
end Go.Proofs.YtdcioacjhpnihaaGreatDoor
namespace Go.Proofs.YtdcioacjhpnihaaGreatDoor
open Go
noncomputable section
def pc8 : CE := ⟨20, [(Pt 6434 0), (Fn 155 [] [(Pt 7022 0)])], 7030, [(1, gFirst.2.obj),
 (2, gK.2.obj),
 (3, gBr),
 (4, gHalves.2.obj),
 (100, (.chan 427 ⟨([(Ag qr4), (Ag qr13), (Ag qr0), (Ag qr5), (Ag qr6), (Ag qr7)] ++ (List.replicate 92 (Ag qr0)) ++ [(Ag qr12)] ++ (List.replicate 83 (Ag qr0)))⟩ false 512 0 false)),
 (101, (.cells ⟨[(.int .i64 (.negSucc 0)), e0, (Sx 100 0 182 182), s0, ff, (U 79)]⟩ 159 (0, 0))),
 (6005, (.cells ⟨[(Pt 101 0), (U 3), (U 4), (I 96), (St [0, 64, 0, 4]), (I 1), (U 4), (I 0), ff]⟩ 376 (0, 0))),
 (6035, (.map ⟨[⟨(I 0), (Ag qr12), 0⟩, ⟨(I 1), (Ag qr0), 1⟩]⟩ 2)),
 (6036, (.map ⟨[]⟩ 0)),
 (6037, (.map ⟨[]⟩ 0)),
 (6038, (.cells ⟨[(Pt 6005 0), (Pt 101 0), (I 64), (St [0, 4]), (Mp 6035), (Mp 6036), (Mp 6037), ff]⟩ 240 (0, 0))),
 (6434, (.cells ⟨[(Pt 6038 0), (Pt 6038 0), (I 32), (I 4), (I 0), (Pt 6038 0), (I 32), (I 6), (I 0), (Pt 6038 0), (I 4), (I 4), (I 0), (Pt 6038 0), (I 17), (I 33), (I 0), (Pt 6038 0), (I 1), (I 1), (I 0), (Pt 6038 0), (I 32), (I 5), (I 0), (Pt 6038 0), (I 33), (I 4), (I 0), (Pt 6038 0), (I 2), (I 5), (I 0), ff, (I 0)]⟩ 141 (0, 0))),
 (7022, (.cells ⟨[(Pt 6434 0)]⟩ 89 (0, 0)))], (I 0), 8517, [(1, gFirst.2.obj),
 (2, gK.2.obj),
 (3, gBr),
 (4, gHalves.2.obj),
 (100, (.chan 427 ⟨([(Ag qr4), (Ag qr13), (Ag qr0), (Ag qr5), (Ag qr6), (Ag qr7), (Ag qr14), (Ag qr15), (Ag qr16), (Ag qr17)] ++ (List.replicate 88 (Ag qr0)) ++ [(Ag qr12)] ++ (List.replicate 83 (Ag qr0)))⟩ false 512 0 false)),
 (101, (.cells ⟨[(.int .i64 (.negSucc 0)), e0, (Sx 100 0 182 182), s0, ff, (U 84)]⟩ 159 (0, 0))),
 (6005, (.cells ⟨[(Pt 101 0), (U 3), (U 4), (I 96), (St [0, 64, 0, 4]), (I 1), (U 8), (I 4), ff]⟩ 376 (0, 0))),
 (6035, (.chan 0 ⟨[(Tu [(I 0), (Ag qr18)]), (Tu [(I 2), (Ag qr19)]), (Tu [(I 1), (Ag qr20)])]⟩ true 0 0 false)),
 (6036, (.chan 0 ⟨[(Tu [(I 0), tt]), (Tu [(I 2), tt]), (Tu [(I 1), tt])]⟩ true 0 0 false)),
 (6037, (.map ⟨[]⟩ 3)),
 (6038, (.cells ⟨[(Pt 6005 0), (Pt 101 0), (I 64), (St [0, 4]), (Mp 6035), (Mp 6036), (Mp 6037), ff]⟩ 240 (0, 0))),
 (6434, (.cells ⟨[(Pt 6038 0), (Pt 6038 0), (I 32), (I 4), (I 0), (Pt 6038 0), (I 32), (I 6), (I 0), (Pt 6038 0), (I 4), (I 4), (I 0), (Pt 6038 0), (I 17), (I 33), (I 0), (Pt 6038 0), (I 1), (I 1), (I 2), (Pt 6038 0), (I 32), (I 5), (I 0), (Pt 6038 0), (I 33), (I 4), (I 0), (Pt 6038 0), (I 2), (I 5), (I 0), ff, (I 0)]⟩ 141 (0, 0))),
 (7022, (.cells ⟨[(Pt 6434 0)]⟩ 89 (0, 0)))]⟩
set_option maxRecDepth 1000000 in
theorem pc8_ok : pc8.good E2 1000000 = true := by kernel_rfl
theorem pc8_call {args : List Value} {s : AS} (h : pc8.is args s = true) : CallOk E2 pc8.f args s pc8.v (pc8.to s) := piece_ok (E := E2) E2_ok pc8_ok h
end
end Go.Proofs.YtdcioacjhpnihaaGreatDoor
