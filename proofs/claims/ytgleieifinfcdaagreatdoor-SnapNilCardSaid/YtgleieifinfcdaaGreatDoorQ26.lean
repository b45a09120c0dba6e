/- A piece of the run: (*armarium/forest.Forest).Do 12826 15795. A piece of the run: (armarium/armariumref22.State).Create 15810 26221. A piece of the run: (armarium/armariumref22.State).Create 26772 26775. A piece of the run: (*armarium/forest.Forest).Do 27312 28843. -/
import Derived.Test.YtgleieifinfcdaaGreatDoorQ18
set_option linter.all false
namespace Go.Proofs.YtgleieifinfcdaaGreatDoor
open Go
noncomputable section
def pc9 : CE := ⟨20, [(Pt 6434 0), (Fn 49 [] [(Pt 7019 0), (Pt 7022 0), (Pt 7021 0), (Pt 7020 0)])], 12826, [(0, gFirst.2.obj),
 (1, gK.2.obj),
 (3, gBr),
 (4, gHalves.2.obj),
 (100, (.chan 450 ⟨([(Ag qr4), (Ag qr13), (Ag qr0), (Ag qr5), (Ag qr6), (Ag qr7), (Ag qr14), (Ag qr15), (Ag qr16), (Ag qr17), (Ag qr27), (Ag qr28), (Ag qr29), (Ag qr30), (Ag qr31), (Ag qr32), (Ag qr33)] ++ (List.replicate 81 (Ag qr0)) ++ [(Ag qr12)] ++ (List.replicate 64 (Ag qr0)) ++ [(Ag qr34)] ++ (List.replicate 18 (Ag qr0)))⟩ false 512 0 false)),
 (101, (.cells ⟨[(.int .i64 (.negSucc 0)), e0, (Sx 100 0 182 182), s0, ff, (U 94)]⟩ 212 (0, 0))),
 (6005, (.cells ⟨[(Pt 101 0), (U 3), (U 4), (I 96), (St [0, 64, 0, 4]), (I 1), (U 15), (I 11), ff]⟩ 429 (0, 0))),
 (6035, (.chan 0 ⟨[(Tu [(I 2), (Ag qr19)]), (Tu [(I 0), (Ag qr35)]), (Tu [(I 3), (Ag qr36)]), (Tu [(I 4), (Ag qr37)]), (Tu [(I 5), (Ag qr38)]), (Tu [(I 6), (Ag qr38)]), (Tu [(I 1), (Ag qr39)])]⟩ true 0 0 false)),
 (6036, (.chan 0 ⟨[(Tu [(I 2), tt]), (Tu [(I 0), tt]), (Tu [(I 3), tt]), (Tu [(I 4), tt]), (Tu [(I 5), tt]), (Tu [(I 6), tt]), (Tu [(I 1), tt])]⟩ true 0 0 false)),
 (6037, (.map ⟨[]⟩ 9)),
 (6038, (.cells ⟨[(Pt 6005 0), (Pt 101 0), (I 64), (St [0, 4]), (Mp 6035), (Mp 6036), (Mp 6037), ff]⟩ 247 (0, 0))),
 (6434, (.cells ⟨[(Pt 6038 0), (Pt 6038 0), (I 32), (I 4), (I 5), (Pt 6038 0), (I 32), (I 6), (I 4), (Pt 6038 0), (I 4), (I 4), (I 0), (Pt 6038 0), (I 17), (I 33), (I 0), (Pt 6038 0), (I 1), (I 1), (I 2), (Pt 6038 0), (I 32), (I 5), (I 6), (Pt 6038 0), (I 33), (I 4), (I 0), (Pt 6038 0), (I 2), (I 5), (I 3), ff, (I 0)]⟩ 133 (0, 0))),
 (6780, (.cells ⟨[(Pt 6434 0), (I 4)]⟩ 125 (0, 0))),
 (7019, (.cells ⟨[(Pt 6780 0)]⟩ 38 (0, 0))),
 (7020, (.cells ⟨[(St [97])]⟩ 9 (0, 0))),
 (7021, (.cells ⟨[(Pt 6434 0)]⟩ 81 (0, 0))),
 (7022, (.cells ⟨qr22⟩ 24 (0, 0)))], (I 0), 15795, [(0, gFirst.2.obj),
 (1, gK.2.obj),
 (3, gBr),
 (4, gHalves.2.obj),
 (100, (.chan 450 ⟨([(Ag qr4), (Ag qr13), (Ag qr0), (Ag qr5), (Ag qr6), (Ag qr7), (Ag qr14), (Ag qr15), (Ag qr16), (Ag qr17), (Ag qr27), (Ag qr28), (Ag qr29), (Ag qr30), (Ag qr31), (Ag qr32), (Ag qr33), (Ag qr40), (Ag qr41), (Ag qr42), (Ag qr43)] ++ (List.replicate 77 (Ag qr0)) ++ [(Ag qr12)] ++ (List.replicate 64 (Ag qr0)) ++ [(Ag qr34)] ++ (List.replicate 18 (Ag qr0)))⟩ false 512 0 false)),
 (101, (.cells ⟨[(.int .i64 (.negSucc 0)), e0, (Sx 100 0 182 182), s0, ff, (U 99)]⟩ 212 (0, 0))),
 (6005, (.cells ⟨[(Pt 101 0), (U 3), (U 4), (I 96), (St [0, 64, 0, 4]), (I 1), (U 19), (I 15), ff]⟩ 429 (0, 0))),
 (6035, (.chan 0 ⟨[(Tu [(I 2), (Ag qr19)]), (Tu [(I 3), (Ag qr36)]), (Tu [(I 4), (Ag qr37)]), (Tu [(I 5), (Ag qr38)]), (Tu [(I 0), (Ag qr44)]), (Tu [(I 6), (Ag qr45)]), (Tu [(I 1), (Ag qr46)])]⟩ true 0 0 false)),
 (6036, (.chan 0 ⟨[(Tu [(I 2), tt]), (Tu [(I 3), tt]), (Tu [(I 4), tt]), (Tu [(I 5), tt]), (Tu [(I 0), tt]), (Tu [(I 6), tt]), (Tu [(I 1), tt])]⟩ true 0 0 false)),
 (6037, (.map ⟨[]⟩ 12)),
 (6038, (.cells ⟨[(Pt 6005 0), (Pt 101 0), (I 64), (St [0, 4]), (Mp 6035), (Mp 6036), (Mp 6037), ff]⟩ 247 (0, 0))),
 (6434, (.cells ⟨[(Pt 6038 0), (Pt 6038 0), (I 32), (I 4), (I 5), (Pt 6038 0), (I 32), (I 6), (I 4), (Pt 6038 0), (I 4), (I 4), (I 0), (Pt 6038 0), (I 17), (I 33), (I 6), (Pt 6038 0), (I 1), (I 1), (I 0), (Pt 6038 0), (I 32), (I 5), (I 0), (Pt 6038 0), (I 33), (I 4), (I 0), (Pt 6038 0), (I 2), (I 5), (I 3), ff, (I 0)]⟩ 133 (0, 0))),
 (6780, (.cells ⟨[(Pt 6434 0), (I 4)]⟩ 125 (0, 0))),
 (7019, (.cells ⟨[(Pt 6780 0)]⟩ 38 (0, 0))),
 (7020, (.cells ⟨[(St [97])]⟩ 9 (0, 0))),
 (7021, (.cells ⟨[(Pt 6434 0)]⟩ 81 (0, 0))),
 (7022, (.cells ⟨qr22⟩ 24 (0, 0)))]⟩
set_option maxRecDepth 1000000 in
theorem pc9_ok : pc9.good E2 1000000 = true := by kernel_rfl
theorem pc9_call {args : List Value} {s : AS} (h : pc9.is args s = true) : CallOk E2 pc9.f args s pc9.v (pc9.to s) := piece_ok (E := E2) E2_ok pc9_ok h
end
end Go.Proofs.YtgleieifinfcdaaGreatDoor
namespace Go.Proofs.YtgleieifinfcdaaGreatDoor
open Go
noncomputable section
def pc10 : CE := ⟨36, [(Ag ([(Sx 6817 0 4 4)] ++ (List.replicate 5 s0) ++ [(.int .u32 (.ofNat 1116352408)), (.int .u32 (.ofNat 1899447441)), (.int .u32 (.ofNat 3049323471)), (.int .u32 (.ofNat 3921009573)), (.int .u32 (.ofNat 961987163)), (.int .u32 (.ofNat 1508970993)), (.int .u32 (.ofNat 2453635748)), (.int .u32 (.ofNat 2870763221)), (.int .u32 (.ofNat 3624381080)), (.int .u32 (.ofNat 310598401)), (.int .u32 (.ofNat 607225278)), (.int .u32 (.ofNat 1426881987)), (.int .u32 (.ofNat 1925078388)), (.int .u32 (.ofNat 2162078206)), (.int .u32 (.ofNat 2614888103)), (.int .u32 (.ofNat 3248222580)), (.int .u32 (.ofNat 3835390401)), (.int .u32 (.ofNat 4022224774)), (.int .u32 (.ofNat 264347078)), (.int .u32 (.ofNat 604807628)), (.int .u32 (.ofNat 770255983)), (.int .u32 (.ofNat 1249150122)), (.int .u32 (.ofNat 1555081692)), (.int .u32 (.ofNat 1996064986)), (.int .u32 (.ofNat 2554220882)), (.int .u32 (.ofNat 2821834349)), (.int .u32 (.ofNat 2952996808)), (.int .u32 (.ofNat 3210313671)), (.int .u32 (.ofNat 3336571891)), (.int .u32 (.ofNat 3584528711)), (.int .u32 (.ofNat 113926993)), (.int .u32 (.ofNat 338241895)), (.int .u32 (.ofNat 666307205)), (.int .u32 (.ofNat 773529912)), (.int .u32 (.ofNat 1294757372)), (.int .u32 (.ofNat 1396182291)), (.int .u32 (.ofNat 1695183700)), (.int .u32 (.ofNat 1986661051)), (.int .u32 (.ofNat 2177026350)), (.int .u32 (.ofNat 2456956037)), (.int .u32 (.ofNat 2730485921)), (.int .u32 (.ofNat 2820302411)), (.int .u32 (.ofNat 3259730800)), (.int .u32 (.ofNat 3345764771)), (.int .u32 (.ofNat 3516065817)), (.int .u32 (.ofNat 3600352804)), (.int .u32 (.ofNat 4094571909)), (.int .u32 (.ofNat 275423344)), (.int .u32 (.ofNat 430227734)), (.int .u32 (.ofNat 506948616)), (.int .u32 (.ofNat 659060556)), (.int .u32 (.ofNat 883997877)), (.int .u32 (.ofNat 958139571)), (.int .u32 (.ofNat 1322822218)), (.int .u32 (.ofNat 1537002063)), (.int .u32 (.ofNat 1747873779)), (.int .u32 (.ofNat 1955562222)), (.int .u32 (.ofNat 2024104815)), (.int .u32 (.ofNat 2227730452)), (.int .u32 (.ofNat 2361852424)), (.int .u32 (.ofNat 2428436474)), (.int .u32 (.ofNat 2756734187)), (.int .u32 (.ofNat 3204031479)), (.int .u32 (.ofNat 3329325298)), (.int .u32 (.ofNat 1779033703)), (.int .u32 (.ofNat 3144134277)), (.int .u32 (.ofNat 1013904242)), (.int .u32 (.ofNat 2773480762)), (.int .u32 (.ofNat 1359893119)), (.int .u32 (.ofNat 2600822924)), (.int .u32 (.ofNat 528734635)), (.int .u32 (.ofNat 1541459225)), (I 16), s0])), (St [97]), (Sx 6951 0 1 1)], 15810, [(0, gFirst.2.obj),
 (1, gK.2.obj),
 (3, gBr),
 (4, gHalves.2.obj),
 (6817, (.cells ⟨[(.int .u8 (.ofNat 0)), e0, (I 0), (.int .u8 (.ofNat 0)), e0, (I 0), (.int .u8 (.ofNat 0)), e0, (I 0), (.int .u8 (.ofNat 0)), e0, (I 0)]⟩ 381 (0, 0))),
 (6951, (.cells ⟨[(St [1, 104, 105])]⟩ 9 (0, 0)))], (Tu [(Ag [(Sg 26069 0 0 4 4), (Sg 26087 0 0 1 1), (Sg 26099 0 0 1 1), (Sg 26101 0 0 1 1), s0, s0, (.int .u32 (.ofNat 1116352408)), (.int .u32 (.ofNat 1899447441)), (.int .u32 (.ofNat 3049323471)), (.int .u32 (.ofNat 3921009573)), (.int .u32 (.ofNat 961987163)), (.int .u32 (.ofNat 1508970993)), (.int .u32 (.ofNat 2453635748)), (.int .u32 (.ofNat 2870763221)), (.int .u32 (.ofNat 3624381080)), (.int .u32 (.ofNat 310598401)), (.int .u32 (.ofNat 607225278)), (.int .u32 (.ofNat 1426881987)), (.int .u32 (.ofNat 1925078388)), (.int .u32 (.ofNat 2162078206)), (.int .u32 (.ofNat 2614888103)), (.int .u32 (.ofNat 3248222580)), (.int .u32 (.ofNat 3835390401)), (.int .u32 (.ofNat 4022224774)), (.int .u32 (.ofNat 264347078)), (.int .u32 (.ofNat 604807628)), (.int .u32 (.ofNat 770255983)), (.int .u32 (.ofNat 1249150122)), (.int .u32 (.ofNat 1555081692)), (.int .u32 (.ofNat 1996064986)), (.int .u32 (.ofNat 2554220882)), (.int .u32 (.ofNat 2821834349)), (.int .u32 (.ofNat 2952996808)), (.int .u32 (.ofNat 3210313671)), (.int .u32 (.ofNat 3336571891)), (.int .u32 (.ofNat 3584528711)), (.int .u32 (.ofNat 113926993)), (.int .u32 (.ofNat 338241895)), (.int .u32 (.ofNat 666307205)), (.int .u32 (.ofNat 773529912)), (.int .u32 (.ofNat 1294757372)), (.int .u32 (.ofNat 1396182291)), (.int .u32 (.ofNat 1695183700)), (.int .u32 (.ofNat 1986661051)), (.int .u32 (.ofNat 2177026350)), (.int .u32 (.ofNat 2456956037)), (.int .u32 (.ofNat 2730485921)), (.int .u32 (.ofNat 2820302411)), (.int .u32 (.ofNat 3259730800)), (.int .u32 (.ofNat 3345764771)), (.int .u32 (.ofNat 3516065817)), (.int .u32 (.ofNat 3600352804)), (.int .u32 (.ofNat 4094571909)), (.int .u32 (.ofNat 275423344)), (.int .u32 (.ofNat 430227734)), (.int .u32 (.ofNat 506948616)), (.int .u32 (.ofNat 659060556)), (.int .u32 (.ofNat 883997877)), (.int .u32 (.ofNat 958139571)), (.int .u32 (.ofNat 1322822218)), (.int .u32 (.ofNat 1537002063)), (.int .u32 (.ofNat 1747873779)), (.int .u32 (.ofNat 1955562222)), (.int .u32 (.ofNat 2024104815)), (.int .u32 (.ofNat 2227730452)), (.int .u32 (.ofNat 2361852424)), (.int .u32 (.ofNat 2428436474)), (.int .u32 (.ofNat 2756734187)), (.int .u32 (.ofNat 3204031479)), (.int .u32 (.ofNat 3329325298)), (.int .u32 (.ofNat 1779033703)), (.int .u32 (.ofNat 3144134277)), (.int .u32 (.ofNat 1013904242)), (.int .u32 (.ofNat 2773480762)), (.int .u32 (.ofNat 1359893119)), (.int .u32 (.ofNat 2600822924)), (.int .u32 (.ofNat 528734635)), (.int .u32 (.ofNat 1541459225)), (I 16), (Sg 26220 0 0 1 1)]), (I 0)]), 26221, [(0, gFirst.2.obj),
 (1, gK.2.obj),
 (3, gBr),
 (4, gHalves.2.obj),
 (6817, (.cells ⟨[(.int .u8 (.ofNat 0)), e0, (I 0), (.int .u8 (.ofNat 0)), e0, (I 0), (.int .u8 (.ofNat 0)), e0, (I 0), (.int .u8 (.ofNat 0)), e0, (I 0)]⟩ 381 (0, 0))),
 (6951, (.cells ⟨[(St [1, 104, 105])]⟩ 9 (0, 0))),
 (26069, (.cells ⟨[(.int .u8 (.ofNat 1)), (St qt47), (I 37), (.int .u8 (.ofNat 0)), e0, (I 0), (.int .u8 (.ofNat 0)), e0, (I 0), (.int .u8 (.ofNat 0)), e0, (I 0)]⟩ 381 (0, 0))),
 (26087, (.cells ⟨(qr22 ++ [(St [1, 104, 105]), (I 0), (I 0), (I 3), (I 0), (I 0), (I 0), ff])⟩ 180 (0, 0))),
 (26099, (.cells ⟨qr22⟩ 24 (0, 0))),
 (26101, (.cells ⟨[(I 1)]⟩ 2 (0, 0))),
 (26220, (.cells ⟨([(St [97])] ++ qr48)⟩ 107 (0, 0)))]⟩
set_option maxRecDepth 1000000 in
theorem pc10_ok : pc10.good E2 1000000 = true := by kernel_rfl
theorem pc10_call {args : List Value} {s : AS} (h : pc10.is args s = true) : CallOk E2 pc10.f args s pc10.v (pc10.to s) := piece_ok (E := E2) E2_ok pc10_ok h
end
end Go.Proofs.YtgleieifinfcdaaGreatDoor
namespace Go.Proofs.YtgleieifinfcdaaGreatDoor
open Go
noncomputable section
def pc11 : CE := ⟨36, [(Ag [(Sg 26069 0 0 4 4), (Sg 26087 0 0 1 1), (Sg 26099 0 0 1 1), (Sg 26101 0 0 1 1), s0, s0, (.int .u32 (.ofNat 1116352408)), (.int .u32 (.ofNat 1899447441)), (.int .u32 (.ofNat 3049323471)), (.int .u32 (.ofNat 3921009573)), (.int .u32 (.ofNat 961987163)), (.int .u32 (.ofNat 1508970993)), (.int .u32 (.ofNat 2453635748)), (.int .u32 (.ofNat 2870763221)), (.int .u32 (.ofNat 3624381080)), (.int .u32 (.ofNat 310598401)), (.int .u32 (.ofNat 607225278)), (.int .u32 (.ofNat 1426881987)), (.int .u32 (.ofNat 1925078388)), (.int .u32 (.ofNat 2162078206)), (.int .u32 (.ofNat 2614888103)), (.int .u32 (.ofNat 3248222580)), (.int .u32 (.ofNat 3835390401)), (.int .u32 (.ofNat 4022224774)), (.int .u32 (.ofNat 264347078)), (.int .u32 (.ofNat 604807628)), (.int .u32 (.ofNat 770255983)), (.int .u32 (.ofNat 1249150122)), (.int .u32 (.ofNat 1555081692)), (.int .u32 (.ofNat 1996064986)), (.int .u32 (.ofNat 2554220882)), (.int .u32 (.ofNat 2821834349)), (.int .u32 (.ofNat 2952996808)), (.int .u32 (.ofNat 3210313671)), (.int .u32 (.ofNat 3336571891)), (.int .u32 (.ofNat 3584528711)), (.int .u32 (.ofNat 113926993)), (.int .u32 (.ofNat 338241895)), (.int .u32 (.ofNat 666307205)), (.int .u32 (.ofNat 773529912)), (.int .u32 (.ofNat 1294757372)), (.int .u32 (.ofNat 1396182291)), (.int .u32 (.ofNat 1695183700)), (.int .u32 (.ofNat 1986661051)), (.int .u32 (.ofNat 2177026350)), (.int .u32 (.ofNat 2456956037)), (.int .u32 (.ofNat 2730485921)), (.int .u32 (.ofNat 2820302411)), (.int .u32 (.ofNat 3259730800)), (.int .u32 (.ofNat 3345764771)), (.int .u32 (.ofNat 3516065817)), (.int .u32 (.ofNat 3600352804)), (.int .u32 (.ofNat 4094571909)), (.int .u32 (.ofNat 275423344)), (.int .u32 (.ofNat 430227734)), (.int .u32 (.ofNat 506948616)), (.int .u32 (.ofNat 659060556)), (.int .u32 (.ofNat 883997877)), (.int .u32 (.ofNat 958139571)), (.int .u32 (.ofNat 1322822218)), (.int .u32 (.ofNat 1537002063)), (.int .u32 (.ofNat 1747873779)), (.int .u32 (.ofNat 1955562222)), (.int .u32 (.ofNat 2024104815)), (.int .u32 (.ofNat 2227730452)), (.int .u32 (.ofNat 2361852424)), (.int .u32 (.ofNat 2428436474)), (.int .u32 (.ofNat 2756734187)), (.int .u32 (.ofNat 3204031479)), (.int .u32 (.ofNat 3329325298)), (.int .u32 (.ofNat 1779033703)), (.int .u32 (.ofNat 3144134277)), (.int .u32 (.ofNat 1013904242)), (.int .u32 (.ofNat 2773480762)), (.int .u32 (.ofNat 1359893119)), (.int .u32 (.ofNat 2600822924)), (.int .u32 (.ofNat 528734635)), (.int .u32 (.ofNat 1541459225)), (I 16), (Sg 26220 0 0 1 1)]), (St [97]), (Sx 26230 0 1 1)], 26772, [(0, gFirst.2.obj),
 (1, gK.2.obj),
 (3, gBr),
 (4, gHalves.2.obj),
 (26069, (.cells ⟨[(.int .u8 (.ofNat 1)), (St qt47), (I 37), (.int .u8 (.ofNat 0)), e0, (I 0), (.int .u8 (.ofNat 0)), e0, (I 0), (.int .u8 (.ofNat 0)), e0, (I 0)]⟩ 381 (0, 0))),
 (26087, (.cells ⟨(qr22 ++ [(St [1, 104, 105]), (I 0), (I 0), (I 3), (I 0), (I 0), (I 0), ff])⟩ 180 (0, 0))),
 (26099, (.cells ⟨qr22⟩ 24 (0, 0))),
 (26101, (.cells ⟨[(I 1)]⟩ 2 (0, 0))),
 (26220, (.cells ⟨([(St [97])] ++ qr48)⟩ 107 (0, 0))),
 (26230, (.cells ⟨[(St [1, 104, 111])]⟩ 9 (0, 0)))], (Tu [(Ag [(Sg 26069 0 0 4 4), (Sg 26087 0 0 1 1), (Sg 26099 0 0 1 1), (Sg 26101 0 0 1 1), s0, s0, (.int .u32 (.ofNat 1116352408)), (.int .u32 (.ofNat 1899447441)), (.int .u32 (.ofNat 3049323471)), (.int .u32 (.ofNat 3921009573)), (.int .u32 (.ofNat 961987163)), (.int .u32 (.ofNat 1508970993)), (.int .u32 (.ofNat 2453635748)), (.int .u32 (.ofNat 2870763221)), (.int .u32 (.ofNat 3624381080)), (.int .u32 (.ofNat 310598401)), (.int .u32 (.ofNat 607225278)), (.int .u32 (.ofNat 1426881987)), (.int .u32 (.ofNat 1925078388)), (.int .u32 (.ofNat 2162078206)), (.int .u32 (.ofNat 2614888103)), (.int .u32 (.ofNat 3248222580)), (.int .u32 (.ofNat 3835390401)), (.int .u32 (.ofNat 4022224774)), (.int .u32 (.ofNat 264347078)), (.int .u32 (.ofNat 604807628)), (.int .u32 (.ofNat 770255983)), (.int .u32 (.ofNat 1249150122)), (.int .u32 (.ofNat 1555081692)), (.int .u32 (.ofNat 1996064986)), (.int .u32 (.ofNat 2554220882)), (.int .u32 (.ofNat 2821834349)), (.int .u32 (.ofNat 2952996808)), (.int .u32 (.ofNat 3210313671)), (.int .u32 (.ofNat 3336571891)), (.int .u32 (.ofNat 3584528711)), (.int .u32 (.ofNat 113926993)), (.int .u32 (.ofNat 338241895)), (.int .u32 (.ofNat 666307205)), (.int .u32 (.ofNat 773529912)), (.int .u32 (.ofNat 1294757372)), (.int .u32 (.ofNat 1396182291)), (.int .u32 (.ofNat 1695183700)), (.int .u32 (.ofNat 1986661051)), (.int .u32 (.ofNat 2177026350)), (.int .u32 (.ofNat 2456956037)), (.int .u32 (.ofNat 2730485921)), (.int .u32 (.ofNat 2820302411)), (.int .u32 (.ofNat 3259730800)), (.int .u32 (.ofNat 3345764771)), (.int .u32 (.ofNat 3516065817)), (.int .u32 (.ofNat 3600352804)), (.int .u32 (.ofNat 4094571909)), (.int .u32 (.ofNat 275423344)), (.int .u32 (.ofNat 430227734)), (.int .u32 (.ofNat 506948616)), (.int .u32 (.ofNat 659060556)), (.int .u32 (.ofNat 883997877)), (.int .u32 (.ofNat 958139571)), (.int .u32 (.ofNat 1322822218)), (.int .u32 (.ofNat 1537002063)), (.int .u32 (.ofNat 1747873779)), (.int .u32 (.ofNat 1955562222)), (.int .u32 (.ofNat 2024104815)), (.int .u32 (.ofNat 2227730452)), (.int .u32 (.ofNat 2361852424)), (.int .u32 (.ofNat 2428436474)), (.int .u32 (.ofNat 2756734187)), (.int .u32 (.ofNat 3204031479)), (.int .u32 (.ofNat 3329325298)), (.int .u32 (.ofNat 1779033703)), (.int .u32 (.ofNat 3144134277)), (.int .u32 (.ofNat 1013904242)), (.int .u32 (.ofNat 2773480762)), (.int .u32 (.ofNat 1359893119)), (.int .u32 (.ofNat 2600822924)), (.int .u32 (.ofNat 528734635)), (.int .u32 (.ofNat 1541459225)), (I 16), (Sg 26220 0 0 1 1)]), (I 9)]), 26775, [(0, gFirst.2.obj),
 (1, gK.2.obj),
 (3, gBr),
 (4, gHalves.2.obj),
 (26069, (.cells ⟨[(.int .u8 (.ofNat 1)), (St qt47), (I 37), (.int .u8 (.ofNat 0)), e0, (I 0), (.int .u8 (.ofNat 0)), e0, (I 0), (.int .u8 (.ofNat 0)), e0, (I 0)]⟩ 381 (0, 0))),
 (26087, (.cells ⟨(qr22 ++ [(St [1, 104, 105]), (I 0), (I 0), (I 3), (I 0), (I 0), (I 0), ff])⟩ 180 (0, 0))),
 (26099, (.cells ⟨qr22⟩ 24 (0, 0))),
 (26101, (.cells ⟨[(I 1)]⟩ 2 (0, 0))),
 (26220, (.cells ⟨([(St [97])] ++ qr48)⟩ 107 (0, 0))),
 (26230, (.cells ⟨[(St [1, 104, 111])]⟩ 9 (0, 0)))]⟩
set_option maxRecDepth 1000000 in
theorem pc11_ok : pc11.good E2 1000000 = true := by kernel_rfl
theorem pc11_call {args : List Value} {s : AS} (h : pc11.is args s = true) : CallOk E2 pc11.f args s pc11.v (pc11.to s) := piece_ok (E := E2) E2_ok pc11_ok h
end
end Go.Proofs.YtgleieifinfcdaaGreatDoor
namespace Go.Proofs.YtgleieifinfcdaaGreatDoor
open Go
noncomputable section
def pc12 : CE := ⟨20, [(Pt 6434 0), (Fn 45 [] [(Pt 27301 0)])], 27312, [(0, gFirst.2.obj),
 (1, gK.2.obj),
 (3, gBr),
 (4, gHalves.2.obj),
 (100, (.chan 450 ⟨([(Ag qr4), (Ag qr13), (Ag qr0), (Ag qr5), (Ag qr6), (Ag qr7), (Ag qr14), (Ag qr15), (Ag qr16), (Ag qr17), (Ag qr27), (Ag qr28), (Ag qr29), (Ag qr30), (Ag qr31), (Ag qr32), (Ag qr33), (Ag qr40), (Ag qr41), (Ag qr42), (Ag qr43)] ++ (List.replicate 77 (Ag qr0)) ++ [(Ag qr12)] ++ (List.replicate 64 (Ag qr0)) ++ [(Ag qr34)] ++ (List.replicate 18 (Ag qr0)))⟩ false 512 0 false)),
 (101, (.cells ⟨[(.int .i64 (.negSucc 0)), e0, (Sx 100 0 182 182), s0, ff, (U 99)]⟩ 212 (0, 0))),
 (6005, (.cells ⟨[(Pt 101 0), (U 3), (U 4), (I 96), (St [0, 64, 0, 4]), (I 1), (U 19), (I 15), ff]⟩ 429 (0, 0))),
 (6035, (.chan 0 ⟨[(Tu [(I 2), (Ag qr19)]), (Tu [(I 3), (Ag qr36)]), (Tu [(I 4), (Ag qr37)]), (Tu [(I 5), (Ag qr38)]), (Tu [(I 0), (Ag qr44)]), (Tu [(I 6), (Ag qr45)]), (Tu [(I 1), (Ag qr46)])]⟩ true 0 0 false)),
 (6036, (.chan 0 ⟨[(Tu [(I 2), tt]), (Tu [(I 3), tt]), (Tu [(I 4), tt]), (Tu [(I 5), tt]), (Tu [(I 0), tt]), (Tu [(I 6), tt]), (Tu [(I 1), tt])]⟩ true 0 0 false)),
 (6037, (.map ⟨[]⟩ 12)),
 (6038, (.cells ⟨[(Pt 6005 0), (Pt 101 0), (I 64), (St [0, 4]), (Mp 6035), (Mp 6036), (Mp 6037), ff]⟩ 247 (0, 0))),
 (6434, (.cells ⟨[(Pt 6038 0), (Pt 6038 0), (I 32), (I 4), (I 5), (Pt 6038 0), (I 32), (I 6), (I 4), (Pt 6038 0), (I 4), (I 4), (I 0), (Pt 6038 0), (I 17), (I 33), (I 6), (Pt 6038 0), (I 1), (I 1), (I 0), (Pt 6038 0), (I 32), (I 5), (I 0), (Pt 6038 0), (I 33), (I 4), (I 0), (Pt 6038 0), (I 2), (I 5), (I 3), ff, (I 0)]⟩ 133 (0, 0))),
 (27301, (.cells ⟨[(Pt 6434 0)]⟩ 81 (0, 0)))], (I 0), 28843, [(0, gFirst.2.obj),
 (1, gK.2.obj),
 (3, gBr),
 (4, gHalves.2.obj),
 (100, (.chan 450 ⟨([(Ag qr4), (Ag qr13), (Ag qr0), (Ag qr5), (Ag qr6), (Ag qr7), (Ag qr14), (Ag qr15), (Ag qr16), (Ag qr17), (Ag qr27), (Ag qr28), (Ag qr29), (Ag qr30), (Ag qr31), (Ag qr32), (Ag qr33), (Ag qr40), (Ag qr41), (Ag qr42), (Ag qr43), (Ag qr49), (Ag qr50), (Ag qr51), (Ag qr52)] ++ (List.replicate 73 (Ag qr0)) ++ [(Ag qr12)] ++ (List.replicate 64 (Ag qr0)) ++ [(Ag qr34)] ++ (List.replicate 18 (Ag qr0)))⟩ false 512 0 false)),
 (101, (.cells ⟨[(.int .i64 (.negSucc 0)), e0, (Sx 100 0 182 182), s0, ff, (U 104)]⟩ 212 (0, 0))),
 (6005, (.cells ⟨[(Pt 101 0), (U 3), (U 4), (I 96), (St [0, 64, 0, 4]), (I 1), (U 23), (I 19), ff]⟩ 429 (0, 0))),
 (6035, (.chan 0 ⟨[(Tu [(I 3), (Ag qr36)]), (Tu [(I 4), (Ag qr37)]), (Tu [(I 5), (Ag qr38)]), (Tu [(I 6), (Ag qr45)]), (Tu [(I 0), (Ag qr35)]), (Tu [(I 2), (Ag qr19)]), (Tu [(I 1), (Ag qr53)])]⟩ true 0 0 false)),
 (6036, (.chan 0 ⟨[(Tu [(I 3), tt]), (Tu [(I 4), tt]), (Tu [(I 5), tt]), (Tu [(I 6), tt]), (Tu [(I 0), tt]), (Tu [(I 2), tt]), (Tu [(I 1), tt])]⟩ true 0 0 false)),
 (6037, (.map ⟨[]⟩ 15)),
 (6038, (.cells ⟨[(Pt 6005 0), (Pt 101 0), (I 64), (St [0, 4]), (Mp 6035), (Mp 6036), (Mp 6037), ff]⟩ 247 (0, 0))),
 (6434, (.cells ⟨[(Pt 6038 0), (Pt 6038 0), (I 32), (I 4), (I 5), (Pt 6038 0), (I 32), (I 6), (I 4), (Pt 6038 0), (I 4), (I 4), (I 0), (Pt 6038 0), (I 17), (I 33), (I 6), (Pt 6038 0), (I 1), (I 1), (I 2), (Pt 6038 0), (I 32), (I 5), (I 0), (Pt 6038 0), (I 33), (I 4), (I 0), (Pt 6038 0), (I 2), (I 5), (I 3), ff, (I 0)]⟩ 133 (0, 0))),
 (27301, (.cells ⟨[(Pt 6434 0)]⟩ 81 (0, 0)))]⟩
set_option maxRecDepth 1000000 in
theorem pc12_ok : pc12.good E2 1000000 = true := by kernel_rfl
theorem pc12_call {args : List Value} {s : AS} (h : pc12.is args s = true) : CallOk E2 pc12.f args s pc12.v (pc12.to s) := piece_ok (E := E2) E2_ok pc12_ok h
end
end Go.Proofs.YtgleieifinfcdaaGreatDoor
