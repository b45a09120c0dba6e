/- A piece of the run: armarium/armariumref03.Primes 6820 6948. -/
import Derived.Test.YtgleieifinfcdaaGreatDoorQ18
set_option linter.all false
namespace Go.Proofs.YtgleieifinfcdaaGreatDoor
open Go
noncomputable section
def pc6 : CE := ⟨109, [(I 64)], 6820, [(0, gFirst.2.obj),
 (1, gK.2.obj),
 (3, gBr),
 (4, gHalves.2.obj)], (Sg 6947 0 0 64 64), 6948, [(0, gFirst.2.obj),
 (1, gK.2.obj),
 (3, gBr),
 (4, gHalves.2.obj),
 (6947, (.cells ⟨[(U 2), (U 3), (U 5), (U 7), (U 11), (U 13), (U 17), (U 19), (U 23), (U 29), (U 31), (U 37), (U 41), (U 43), (U 47), (U 53), (U 59), (U 61), (U 67), (U 71), (U 73), (U 79), (U 83), (U 89), (U 97), (U 101), (U 103), (U 107), (U 109), (U 113), (U 127), (U 131), (U 137), (U 139), (U 149), (U 151), (U 157), (U 163), (U 167), (U 173), (U 179), (U 181), (U 191), (U 193), (U 197), (U 199), (U 211), (U 223), (U 227), (U 229), (U 233), (U 239), (U 241), (U 251), (U 257), (U 263), (U 269), (U 271), (U 277), (U 281), (U 283), (U 293), (U 307), (U 311)]⟩ 145 (0, 0)))]⟩
set_option maxRecDepth 1000000 in
theorem pc6_ok : pc6.good E2 1000000 = true := by kernel_rfl
theorem pc6_call {args : List Value} {s : AS} (h : pc6.is args s = true) : CallOk E2 pc6.f args s pc6.v (pc6.to s) := piece_ok (E := E2) E2_ok pc6_ok h
end
end Go.Proofs.YtgleieifinfcdaaGreatDoor
