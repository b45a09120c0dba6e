/- A piece of the run: (armarium/armariumref22.State).Create 43182 64075. A piece of the run: (*armarium/armariumlaw14.State).Same 64348 66455. A piece of the run: (*armarium/armariumlaw15.State).Same 64336 68986. -/
import Derived.Test.YtgleieifinfcdaaGreatDoorQ18
set_option linter.all false
namespace Go.Proofs.YtgleieifinfcdaaGreatDoor
open Go
noncomputable section
def pc17 : CE := ⟨36, [(Ag [(Sg 26069 0 0 4 4), (Sg 26087 0 0 1 1), (Sg 26099 0 0 1 1), (Sg 26101 0 0 1 1), s0, s0, (.int .u32 (.ofNat 1116352408)), (.int .u32 (.ofNat 1899447441)), (.int .u32 (.ofNat 3049323471)), (.int .u32 (.ofNat 3921009573)), (.int .u32 (.ofNat 961987163)), (.int .u32 (.ofNat 1508970993)), (.int .u32 (.ofNat 2453635748)), (.int .u32 (.ofNat 2870763221)), (.int .u32 (.ofNat 3624381080)), (.int .u32 (.ofNat 310598401)), (.int .u32 (.ofNat 607225278)), (.int .u32 (.ofNat 1426881987)), (.int .u32 (.ofNat 1925078388)), (.int .u32 (.ofNat 2162078206)), (.int .u32 (.ofNat 2614888103)), (.int .u32 (.ofNat 3248222580)), (.int .u32 (.ofNat 3835390401)), (.int .u32 (.ofNat 4022224774)), (.int .u32 (.ofNat 264347078)), (.int .u32 (.ofNat 604807628)), (.int .u32 (.ofNat 770255983)), (.int .u32 (.ofNat 1249150122)), (.int .u32 (.ofNat 1555081692)), (.int .u32 (.ofNat 1996064986)), (.int .u32 (.ofNat 2554220882)), (.int .u32 (.ofNat 2821834349)), (.int .u32 (.ofNat 2952996808)), (.int .u32 (.ofNat 3210313671)), (.int .u32 (.ofNat 3336571891)), (.int .u32 (.ofNat 3584528711)), (.int .u32 (.ofNat 113926993)), (.int .u32 (.ofNat 338241895)), (.int .u32 (.ofNat 666307205)), (.int .u32 (.ofNat 773529912)), (.int .u32 (.ofNat 1294757372)), (.int .u32 (.ofNat 1396182291)), (.int .u32 (.ofNat 1695183700)), (.int .u32 (.ofNat 1986661051)), (.int .u32 (.ofNat 2177026350)), (.int .u32 (.ofNat 2456956037)), (.int .u32 (.ofNat 2730485921)), (.int .u32 (.ofNat 2820302411)), (.int .u32 (.ofNat 3259730800)), (.int .u32 (.ofNat 3345764771)), (.int .u32 (.ofNat 3516065817)), (.int .u32 (.ofNat 3600352804)), (.int .u32 (.ofNat 4094571909)), (.int .u32 (.ofNat 275423344)), (.int .u32 (.ofNat 430227734)), (.int .u32 (.ofNat 506948616)), (.int .u32 (.ofNat 659060556)), (.int .u32 (.ofNat 883997877)), (.int .u32 (.ofNat 958139571)), (.int .u32 (.ofNat 1322822218)), (.int .u32 (.ofNat 1537002063)), (.int .u32 (.ofNat 1747873779)), (.int .u32 (.ofNat 1955562222)), (.int .u32 (.ofNat 2024104815)), (.int .u32 (.ofNat 2227730452)), (.int .u32 (.ofNat 2361852424)), (.int .u32 (.ofNat 2428436474)), (.int .u32 (.ofNat 2756734187)), (.int .u32 (.ofNat 3204031479)), (.int .u32 (.ofNat 3329325298)), (.int .u32 (.ofNat 1779033703)), (.int .u32 (.ofNat 3144134277)), (.int .u32 (.ofNat 1013904242)), (.int .u32 (.ofNat 2773480762)), (.int .u32 (.ofNat 1359893119)), (.int .u32 (.ofNat 2600822924)), (.int .u32 (.ofNat 528734635)), (.int .u32 (.ofNat 1541459225)), (I 16), (Sg 26220 0 0 1 1)]), (St [98]), (Sx 26783 0 2 2)], 43182, [(0, gFirst.2.obj),
 (1, gK.2.obj),
 (3, gBr),
 (4, gHalves.2.obj),
 (26069, (.cells ⟨[(.int .u8 (.ofNat 1)), (St qt47), (I 37), (.int .u8 (.ofNat 0)), e0, (I 0), (.int .u8 (.ofNat 0)), e0, (I 0), (.int .u8 (.ofNat 0)), e0, (I 0)]⟩ 381 (0, 0))),
 (26087, (.cells ⟨(qr22 ++ [(St [1, 104, 105]), (I 0), (I 0), (I 3), (I 0), (I 0), (I 0), ff])⟩ 180 (0, 0))),
 (26099, (.cells ⟨qr22⟩ 24 (0, 0))),
 (26101, (.cells ⟨[(I 1)]⟩ 2 (0, 0))),
 (26220, (.cells ⟨([(St [97])] ++ qr48)⟩ 107 (0, 0))),
 (26783, (.cells ⟨[(St [1, 104, 111]), (St [1, 104, 105])]⟩ 9 (0, 0)))], (Tu [(Ag [(Sg 53446 0 0 4 4), (Sg 53465 0 0 2 2), (Sg 63832 0 0 2 2), (Sg 63834 0 0 2 2), (Sg 64058 0 0 2 2), (Sg 0 0 1 0 0), (.int .u32 (.ofNat 1116352408)), (.int .u32 (.ofNat 1899447441)), (.int .u32 (.ofNat 3049323471)), (.int .u32 (.ofNat 3921009573)), (.int .u32 (.ofNat 961987163)), (.int .u32 (.ofNat 1508970993)), (.int .u32 (.ofNat 2453635748)), (.int .u32 (.ofNat 2870763221)), (.int .u32 (.ofNat 3624381080)), (.int .u32 (.ofNat 310598401)), (.int .u32 (.ofNat 607225278)), (.int .u32 (.ofNat 1426881987)), (.int .u32 (.ofNat 1925078388)), (.int .u32 (.ofNat 2162078206)), (.int .u32 (.ofNat 2614888103)), (.int .u32 (.ofNat 3248222580)), (.int .u32 (.ofNat 3835390401)), (.int .u32 (.ofNat 4022224774)), (.int .u32 (.ofNat 264347078)), (.int .u32 (.ofNat 604807628)), (.int .u32 (.ofNat 770255983)), (.int .u32 (.ofNat 1249150122)), (.int .u32 (.ofNat 1555081692)), (.int .u32 (.ofNat 1996064986)), (.int .u32 (.ofNat 2554220882)), (.int .u32 (.ofNat 2821834349)), (.int .u32 (.ofNat 2952996808)), (.int .u32 (.ofNat 3210313671)), (.int .u32 (.ofNat 3336571891)), (.int .u32 (.ofNat 3584528711)), (.int .u32 (.ofNat 113926993)), (.int .u32 (.ofNat 338241895)), (.int .u32 (.ofNat 666307205)), (.int .u32 (.ofNat 773529912)), (.int .u32 (.ofNat 1294757372)), (.int .u32 (.ofNat 1396182291)), (.int .u32 (.ofNat 1695183700)), (.int .u32 (.ofNat 1986661051)), (.int .u32 (.ofNat 2177026350)), (.int .u32 (.ofNat 2456956037)), (.int .u32 (.ofNat 2730485921)), (.int .u32 (.ofNat 2820302411)), (.int .u32 (.ofNat 3259730800)), (.int .u32 (.ofNat 3345764771)), (.int .u32 (.ofNat 3516065817)), (.int .u32 (.ofNat 3600352804)), (.int .u32 (.ofNat 4094571909)), (.int .u32 (.ofNat 275423344)), (.int .u32 (.ofNat 430227734)), (.int .u32 (.ofNat 506948616)), (.int .u32 (.ofNat 659060556)), (.int .u32 (.ofNat 883997877)), (.int .u32 (.ofNat 958139571)), (.int .u32 (.ofNat 1322822218)), (.int .u32 (.ofNat 1537002063)), (.int .u32 (.ofNat 1747873779)), (.int .u32 (.ofNat 1955562222)), (.int .u32 (.ofNat 2024104815)), (.int .u32 (.ofNat 2227730452)), (.int .u32 (.ofNat 2361852424)), (.int .u32 (.ofNat 2428436474)), (.int .u32 (.ofNat 2756734187)), (.int .u32 (.ofNat 3204031479)), (.int .u32 (.ofNat 3329325298)), (.int .u32 (.ofNat 1779033703)), (.int .u32 (.ofNat 3144134277)), (.int .u32 (.ofNat 1013904242)), (.int .u32 (.ofNat 2773480762)), (.int .u32 (.ofNat 1359893119)), (.int .u32 (.ofNat 2600822924)), (.int .u32 (.ofNat 528734635)), (.int .u32 (.ofNat 1541459225)), (I 16), (Sg 26220 0 0 1 1)]), (I 2)]), 64075, [(0, gFirst.2.obj),
 (1, gK.2.obj),
 (3, gBr),
 (4, gHalves.2.obj),
 (26069, (.cells ⟨[(.int .u8 (.ofNat 1)), (St qt47), (I 37), (.int .u8 (.ofNat 0)), e0, (I 0), (.int .u8 (.ofNat 0)), e0, (I 0), (.int .u8 (.ofNat 0)), e0, (I 0)]⟩ 381 (0, 0))),
 (26087, (.cells ⟨(qr22 ++ [(St [1, 104, 105]), (I 0), (I 0), (I 3), (I 0), (I 0), (I 0), ff])⟩ 180 (0, 0))),
 (26099, (.cells ⟨qr22⟩ 24 (0, 0))),
 (26101, (.cells ⟨[(I 1)]⟩ 2 (0, 0))),
 (26220, (.cells ⟨([(St [97])] ++ qr48)⟩ 107 (0, 0))),
 (26783, (.cells ⟨[(St [1, 104, 111]), (St [1, 104, 105])]⟩ 9 (0, 0))),
 (53446, (.cells ⟨[(.int .u8 (.ofNat 1)), (St qt88), (I 74), (.int .u8 (.ofNat 0)), e0, (I 0), (.int .u8 (.ofNat 0)), e0, (I 0), (.int .u8 (.ofNat 0)), e0, (I 0)]⟩ 381 (0, 0))),
 (53465, (.cells ⟨(qr22 ++ [(St [1, 104, 105]), (I 0), (I 0), (I 3), (I 0), (I 0), (I 0), ff] ++ qr55 ++ [(St [1, 104, 111]), (I 0), (I 37), (I 3), (I 0), (I 0), (I 0), ff])⟩ 180 (0, 0))),
 (63832, (.cells ⟨qr89⟩ 24 (0, 0))),
 (63834, (.cells ⟨[(I 1), (I 2)]⟩ 2 (0, 0))),
 (64058, (.cells ⟨(qr48 ++ [(.int .u32 (.ofNat 1))] ++ qr90 ++ [(.int .u32 (.ofNat 1))])⟩ 166 (0, 0)))]⟩
set_option maxRecDepth 1000000 in
theorem pc17_ok : pc17.good E2 1000000 = true := by kernel_rfl
theorem pc17_call {args : List Value} {s : AS} (h : pc17.is args s = true) : CallOk E2 pc17.f args s pc17.v (pc17.to s) := piece_ok (E := E2) E2_ok pc17_ok h
end
end Go.Proofs.YtgleieifinfcdaaGreatDoor
namespace Go.Proofs.YtgleieifinfcdaaGreatDoor
open Go
noncomputable section
def pc18 : CE := ⟨179, [(Pt 64346 0), (Sg 53446 0 0 4 4)], 64348, [(0, gFirst.2.obj),
 (1, gK.2.obj),
 (3, gBr),
 (4, gHalves.2.obj),
 (100, (.chan 450 ⟨([(Ag qr4), (Ag qr13), (Ag qr0), (Ag qr5), (Ag qr6), (Ag qr7), (Ag qr14), (Ag qr15), (Ag qr16), (Ag qr17), (Ag qr27), (Ag qr28), (Ag qr29), (Ag qr30), (Ag qr31), (Ag qr32), (Ag qr33), (Ag qr40), (Ag qr41), (Ag qr42), (Ag qr43), (Ag qr49), (Ag qr50), (Ag qr51), (Ag qr52), (Ag qr56), (Ag qr57), (Ag qr58), (Ag qr59), (Ag qr60), (Ag qr61), (Ag qr62), (Ag qr70), (Ag qr71), (Ag qr72), (Ag qr77), (Ag qr78), (Ag qr79), (Ag qr80), (Ag qr81), (Ag qr82), (Ag qr83), (Ag qr84)] ++ (List.replicate 55 (Ag qr0)) ++ [(Ag qr12)] ++ (List.replicate 64 (Ag qr0)) ++ [(Ag qr63)] ++ (List.replicate 18 (Ag qr0)))⟩ false 512 0 false)),
 (101, (.cells ⟨[(.int .i64 (.negSucc 0)), e0, (Sx 100 0 182 182), s0, ff, (U 128)]⟩ 212 (0, 0))),
 (6005, (.cells ⟨[(Pt 101 0), (U 3), (U 4), (I 96), (St [0, 64, 0, 4]), (I 1), (U 41), (I 37), ff]⟩ 429 (0, 0))),
 (6035, (.chan 0 ⟨[(Tu [(I 6), (Ag qr45)]), (Tu [(I 2), (Ag qr19)]), (Tu [(I 3), (Ag qr64)]), (Tu [(I 4), (Ag qr65)]), (Tu [(I 5), (Ag qr73)]), (Tu [(I 8), (Ag qr85)]), (Tu [(I 7), (Ag qr68)]), (Tu [(I 0), (Ag qr86)]), (Tu [(I 1), (Ag qr87)])]⟩ true 0 0 false)),
 (6036, (.chan 0 ⟨[(Tu [(I 6), tt]), (Tu [(I 2), tt]), (Tu [(I 3), tt]), (Tu [(I 4), tt]), (Tu [(I 5), tt]), (Tu [(I 8), tt]), (Tu [(I 7), tt]), (Tu [(I 0), tt]), (Tu [(I 1), tt])]⟩ true 0 0 false)),
 (6037, (.map ⟨[]⟩ 29)),
 (6038, (.cells ⟨[(Pt 6005 0), (Pt 101 0), (I 64), (St [0, 4]), (Mp 6035), (Mp 6036), (Mp 6037), ff]⟩ 247 (0, 0))),
 (6434, (.cells ⟨[(Pt 6038 0), (Pt 6038 0), (I 32), (I 4), (I 5), (Pt 6038 0), (I 32), (I 6), (I 4), (Pt 6038 0), (I 4), (I 4), (I 0), (Pt 6038 0), (I 17), (I 33), (I 6), (Pt 6038 0), (I 1), (I 1), (I 0), (Pt 6038 0), (I 32), (I 5), (I 0), (Pt 6038 0), (I 33), (I 4), (I 8), (Pt 6038 0), (I 2), (I 5), (I 3), ff, (I 0)]⟩ 133 (0, 0))),
 (6780, (.cells ⟨[(Pt 6434 0), (I 4)]⟩ 125 (0, 0))),
 (53446, (.cells ⟨[(.int .u8 (.ofNat 1)), (St qt88), (I 74), (.int .u8 (.ofNat 0)), e0, (I 0), (.int .u8 (.ofNat 0)), e0, (I 0), (.int .u8 (.ofNat 0)), e0, (I 0)]⟩ 381 (0, 0))),
 (64346, (.cells ⟨[(Pt 101 0), (Pt 6780 0), s0]⟩ 309 (0, 0)))], tt, 66455, [(0, gFirst.2.obj),
 (1, gK.2.obj),
 (3, gBr),
 (4, gHalves.2.obj),
 (100, (.chan 450 ⟨([(Ag qr4), (Ag qr13), (Ag qr0), (Ag qr5), (Ag qr6), (Ag qr7), (Ag qr14), (Ag qr15), (Ag qr16), (Ag qr17), (Ag qr27), (Ag qr28), (Ag qr29), (Ag qr30), (Ag qr31), (Ag qr32), (Ag qr33), (Ag qr40), (Ag qr41), (Ag qr42), (Ag qr43), (Ag qr49), (Ag qr50), (Ag qr51), (Ag qr52), (Ag qr56), (Ag qr57), (Ag qr58), (Ag qr59), (Ag qr60), (Ag qr61), (Ag qr62), (Ag qr70), (Ag qr71), (Ag qr72), (Ag qr77), (Ag qr78), (Ag qr79), (Ag qr80), (Ag qr81), (Ag qr82), (Ag qr83), (Ag qr84)] ++ (List.replicate 55 (Ag qr0)) ++ [(Ag qr12)] ++ (List.replicate 64 (Ag qr0)) ++ [(Ag qr63)] ++ (List.replicate 18 (Ag qr0)))⟩ false 512 0 false)),
 (101, (.cells ⟨[(.int .i64 (.negSucc 0)), e0, (Sx 100 0 182 182), s0, ff, (U 128)]⟩ 212 (0, 0))),
 (6005, (.cells ⟨[(Pt 101 0), (U 3), (U 4), (I 96), (St [0, 64, 0, 4]), (I 1), (U 41), (I 37), ff]⟩ 429 (0, 0))),
 (6035, (.chan 0 ⟨[(Tu [(I 6), (Ag qr45)]), (Tu [(I 2), (Ag qr19)]), (Tu [(I 3), (Ag qr64)]), (Tu [(I 4), (Ag qr65)]), (Tu [(I 5), (Ag qr73)]), (Tu [(I 8), (Ag qr85)]), (Tu [(I 7), (Ag qr68)]), (Tu [(I 0), (Ag qr86)]), (Tu [(I 1), (Ag qr87)])]⟩ true 0 0 false)),
 (6036, (.chan 0 ⟨[(Tu [(I 6), tt]), (Tu [(I 2), tt]), (Tu [(I 3), tt]), (Tu [(I 4), tt]), (Tu [(I 5), tt]), (Tu [(I 8), tt]), (Tu [(I 7), tt]), (Tu [(I 0), tt]), (Tu [(I 1), tt])]⟩ true 0 0 false)),
 (6037, (.map ⟨[]⟩ 29)),
 (6038, (.cells ⟨[(Pt 6005 0), (Pt 101 0), (I 64), (St [0, 4]), (Mp 6035), (Mp 6036), (Mp 6037), ff]⟩ 247 (0, 0))),
 (6434, (.cells ⟨[(Pt 6038 0), (Pt 6038 0), (I 32), (I 4), (I 5), (Pt 6038 0), (I 32), (I 6), (I 4), (Pt 6038 0), (I 4), (I 4), (I 0), (Pt 6038 0), (I 17), (I 33), (I 6), (Pt 6038 0), (I 1), (I 1), (I 0), (Pt 6038 0), (I 32), (I 5), (I 0), (Pt 6038 0), (I 33), (I 4), (I 8), (Pt 6038 0), (I 2), (I 5), (I 3), ff, (I 0)]⟩ 133 (0, 0))),
 (6780, (.cells ⟨[(Pt 6434 0), (I 4)]⟩ 125 (0, 0))),
 (53446, (.cells ⟨[(.int .u8 (.ofNat 1)), (St qt88), (I 74), (.int .u8 (.ofNat 0)), e0, (I 0), (.int .u8 (.ofNat 0)), e0, (I 0), (.int .u8 (.ofNat 0)), e0, (I 0)]⟩ 381 (0, 0))),
 (64346, (.cells ⟨[(Pt 101 0), (Pt 6780 0), s0]⟩ 309 (0, 0)))]⟩
set_option maxRecDepth 1000000 in
theorem pc18_ok : pc18.good E2 1000000 = true := by kernel_rfl
theorem pc18_call {args : List Value} {s : AS} (h : pc18.is args s = true) : CallOk E2 pc18.f args s pc18.v (pc18.to s) := piece_ok (E := E2) E2_ok pc18_ok h
end
end Go.Proofs.YtgleieifinfcdaaGreatDoor
namespace Go.Proofs.YtgleieifinfcdaaGreatDoor
open Go
noncomputable section
def pc19 : CE := ⟨92, [(Pt 64334 0), (Ag [(Sg 53446 0 0 4 4), (Sg 53465 0 0 2 2)])], 64336, [(0, gFirst.2.obj),
 (1, gK.2.obj),
 (3, gBr),
 (4, gHalves.2.obj),
 (100, (.chan 450 ⟨([(Ag qr4), (Ag qr13), (Ag qr0), (Ag qr5), (Ag qr6), (Ag qr7), (Ag qr14), (Ag qr15), (Ag qr16), (Ag qr17), (Ag qr27), (Ag qr28), (Ag qr29), (Ag qr30), (Ag qr31), (Ag qr32), (Ag qr33), (Ag qr40), (Ag qr41), (Ag qr42), (Ag qr43), (Ag qr49), (Ag qr50), (Ag qr51), (Ag qr52), (Ag qr56), (Ag qr57), (Ag qr58), (Ag qr59), (Ag qr60), (Ag qr61), (Ag qr62), (Ag qr70), (Ag qr71), (Ag qr72), (Ag qr77), (Ag qr78), (Ag qr79), (Ag qr80), (Ag qr81), (Ag qr82), (Ag qr83), (Ag qr84)] ++ (List.replicate 55 (Ag qr0)) ++ [(Ag qr12)] ++ (List.replicate 64 (Ag qr0)) ++ [(Ag qr63)] ++ (List.replicate 18 (Ag qr0)))⟩ false 512 0 false)),
 (101, (.cells ⟨[(.int .i64 (.negSucc 0)), e0, (Sx 100 0 182 182), s0, ff, (U 128)]⟩ 212 (0, 0))),
 (6005, (.cells ⟨[(Pt 101 0), (U 3), (U 4), (I 96), (St [0, 64, 0, 4]), (I 1), (U 41), (I 37), ff]⟩ 429 (0, 0))),
 (6035, (.chan 0 ⟨[(Tu [(I 6), (Ag qr45)]), (Tu [(I 2), (Ag qr19)]), (Tu [(I 3), (Ag qr64)]), (Tu [(I 4), (Ag qr65)]), (Tu [(I 5), (Ag qr73)]), (Tu [(I 8), (Ag qr85)]), (Tu [(I 7), (Ag qr68)]), (Tu [(I 0), (Ag qr86)]), (Tu [(I 1), (Ag qr87)])]⟩ true 0 0 false)),
 (6036, (.chan 0 ⟨[(Tu [(I 6), tt]), (Tu [(I 2), tt]), (Tu [(I 3), tt]), (Tu [(I 4), tt]), (Tu [(I 5), tt]), (Tu [(I 8), tt]), (Tu [(I 7), tt]), (Tu [(I 0), tt]), (Tu [(I 1), tt])]⟩ true 0 0 false)),
 (6037, (.map ⟨[]⟩ 29)),
 (6038, (.cells ⟨[(Pt 6005 0), (Pt 101 0), (I 64), (St [0, 4]), (Mp 6035), (Mp 6036), (Mp 6037), ff]⟩ 247 (0, 0))),
 (6434, (.cells ⟨[(Pt 6038 0), (Pt 6038 0), (I 32), (I 4), (I 5), (Pt 6038 0), (I 32), (I 6), (I 4), (Pt 6038 0), (I 4), (I 4), (I 0), (Pt 6038 0), (I 17), (I 33), (I 6), (Pt 6038 0), (I 1), (I 1), (I 0), (Pt 6038 0), (I 32), (I 5), (I 0), (Pt 6038 0), (I 33), (I 4), (I 8), (Pt 6038 0), (I 2), (I 5), (I 3), ff, (I 0)]⟩ 133 (0, 0))),
 (6780, (.cells ⟨[(Pt 6434 0), (I 4)]⟩ 125 (0, 0))),
 (53446, (.cells ⟨[(.int .u8 (.ofNat 1)), (St qt88), (I 74), (.int .u8 (.ofNat 0)), e0, (I 0), (.int .u8 (.ofNat 0)), e0, (I 0), (.int .u8 (.ofNat 0)), e0, (I 0)]⟩ 381 (0, 0))),
 (53465, (.cells ⟨(qr22 ++ [(St [1, 104, 105]), (I 0), (I 0), (I 3), (I 0), (I 0), (I 0), ff] ++ qr55 ++ [(St [1, 104, 111]), (I 0), (I 37), (I 3), (I 0), (I 0), (I 0), ff])⟩ 180 (0, 0))),
 (64334, (.cells ⟨([(Pt 101 0), (Pt 6780 0), s0, s0] ++ (List.replicate 72 (.int .u32 (.ofNat 0))))⟩ 196 (0, 0)))], tt, 68986, [(0, gFirst.2.obj),
 (1, gK.2.obj),
 (3, gBr),
 (4, gHalves.2.obj),
 (100, (.chan 450 ⟨([(Ag qr4), (Ag qr13), (Ag qr0), (Ag qr5), (Ag qr6), (Ag qr7), (Ag qr14), (Ag qr15), (Ag qr16), (Ag qr17), (Ag qr27), (Ag qr28), (Ag qr29), (Ag qr30), (Ag qr31), (Ag qr32), (Ag qr33), (Ag qr40), (Ag qr41), (Ag qr42), (Ag qr43), (Ag qr49), (Ag qr50), (Ag qr51), (Ag qr52), (Ag qr56), (Ag qr57), (Ag qr58), (Ag qr59), (Ag qr60), (Ag qr61), (Ag qr62), (Ag qr70), (Ag qr71), (Ag qr72), (Ag qr77), (Ag qr78), (Ag qr79), (Ag qr80), (Ag qr81), (Ag qr82), (Ag qr83), (Ag qr84)] ++ (List.replicate 55 (Ag qr0)) ++ [(Ag qr12)] ++ (List.replicate 64 (Ag qr0)) ++ [(Ag qr63)] ++ (List.replicate 18 (Ag qr0)))⟩ false 512 0 false)),
 (101, (.cells ⟨[(.int .i64 (.negSucc 0)), e0, (Sx 100 0 182 182), s0, ff, (U 128)]⟩ 212 (0, 0))),
 (6005, (.cells ⟨[(Pt 101 0), (U 3), (U 4), (I 96), (St [0, 64, 0, 4]), (I 1), (U 41), (I 37), ff]⟩ 429 (0, 0))),
 (6035, (.chan 0 ⟨[(Tu [(I 6), (Ag qr45)]), (Tu [(I 2), (Ag qr19)]), (Tu [(I 3), (Ag qr64)]), (Tu [(I 4), (Ag qr65)]), (Tu [(I 5), (Ag qr73)]), (Tu [(I 8), (Ag qr85)]), (Tu [(I 7), (Ag qr68)]), (Tu [(I 0), (Ag qr86)]), (Tu [(I 1), (Ag qr87)])]⟩ true 0 0 false)),
 (6036, (.chan 0 ⟨[(Tu [(I 6), tt]), (Tu [(I 2), tt]), (Tu [(I 3), tt]), (Tu [(I 4), tt]), (Tu [(I 5), tt]), (Tu [(I 8), tt]), (Tu [(I 7), tt]), (Tu [(I 0), tt]), (Tu [(I 1), tt])]⟩ true 0 0 false)),
 (6037, (.map ⟨[]⟩ 29)),
 (6038, (.cells ⟨[(Pt 6005 0), (Pt 101 0), (I 64), (St [0, 4]), (Mp 6035), (Mp 6036), (Mp 6037), ff]⟩ 247 (0, 0))),
 (6434, (.cells ⟨[(Pt 6038 0), (Pt 6038 0), (I 32), (I 4), (I 5), (Pt 6038 0), (I 32), (I 6), (I 4), (Pt 6038 0), (I 4), (I 4), (I 0), (Pt 6038 0), (I 17), (I 33), (I 6), (Pt 6038 0), (I 1), (I 1), (I 0), (Pt 6038 0), (I 32), (I 5), (I 0), (Pt 6038 0), (I 33), (I 4), (I 8), (Pt 6038 0), (I 2), (I 5), (I 3), ff, (I 0)]⟩ 133 (0, 0))),
 (6780, (.cells ⟨[(Pt 6434 0), (I 4)]⟩ 125 (0, 0))),
 (53446, (.cells ⟨[(.int .u8 (.ofNat 1)), (St qt88), (I 74), (.int .u8 (.ofNat 0)), e0, (I 0), (.int .u8 (.ofNat 0)), e0, (I 0), (.int .u8 (.ofNat 0)), e0, (I 0)]⟩ 381 (0, 0))),
 (53465, (.cells ⟨(qr22 ++ [(St [1, 104, 105]), (I 0), (I 0), (I 3), (I 0), (I 0), (I 0), ff] ++ qr55 ++ [(St [1, 104, 111]), (I 0), (I 37), (I 3), (I 0), (I 0), (I 0), ff])⟩ 180 (0, 0))),
 (64334, (.cells ⟨([(Pt 101 0), (Pt 6780 0), s0, s0] ++ (List.replicate 72 (.int .u32 (.ofNat 0))))⟩ 196 (0, 0)))]⟩
def Ev19 : Env := E2.more (pieceOf [pc18])
theorem Ev19_ok : Ev19.Ok := pieces_more fun c hc args s h => by
  simp only [List.mem_cons, List.not_mem_nil, or_false] at hc
  subst hc
  exact pc18_call h
set_option maxRecDepth 1000000 in
theorem pc19_ok : pc19.good Ev19 1000000 = true := by kernel_rfl
theorem pc19_call {args : List Value} {s : AS} (h : pc19.is args s = true) : CallOk E2 pc19.f args s pc19.v (pc19.to s) := piece_ok (E := Ev19) Ev19_ok pc19_ok h
end
end Go.Proofs.YtgleieifinfcdaaGreatDoor
