/- A piece of the run: armarium/forest.Format 123 5214. A piece of the run: armarium/armariumlaw22.Begins 100 6951. -/
import Derived.Test.YtdcioacjhpnihaaGreatDoorQ22
import Derived.Test.YtdcioacjhpnihaaGreatDoorQ27
import Derived.Test.YtdcioacjhpnihaaGreatDoorQ23
import Derived.Test.YtdcioacjhpnihaaGreatDoorQ24
set_option linter.all false
namespace Go.Proofs.YtdcioacjhpnihaaGreatDoor
open Go
noncomputable section
def pc3 : CE := ⟨57, [(Pt 101 0), (I 96), (I 64), (St [0, 4])], 123, [(1, gFirst.2.obj),
 (2, gK.2.obj),
 (3, gBr),
 (4, gHalves.2.obj),
 (100, (.chan 427 ⟨(List.replicate 182 (Ag qr0))⟩ false 512 0 false)),
 (101, (.cells ⟨[(.int .i64 (.negSucc 0)), e0, (Sx 100 0 182 182), s0, ff, (U 0)]⟩ 159 (0, 0)))], (I 0), 5214, [(1, gFirst.2.obj),
 (2, gK.2.obj),
 (3, gBr),
 (4, gHalves.2.obj),
 (100, (.chan 427 ⟨([(Ag qr4), (Ag qr3), (Ag qr0), (Ag qr5), (Ag qr6), (Ag qr7)] ++ (List.replicate 92 (Ag qr0)) ++ [(Ag qr2)] ++ (List.replicate 83 (Ag qr0)))⟩ false 512 0 false)),
 (101, (.cells ⟨[(.int .i64 (.negSucc 0)), e0, (Sx 100 0 182 182), s0, ff, (U 74)]⟩ 159 (0, 0)))]⟩
def Ev3 : Env := E2.more (pieceOf [pc1, pc2])
theorem Ev3_ok : Ev3.Ok := pieces_more fun c hc args s h => by
  simp only [List.mem_cons, List.not_mem_nil, or_false] at hc
  rcases hc with rfl | rfl
  · exact pc1_call h
  · exact pc2_call h
set_option maxRecDepth 1000000 in
theorem pc3_ok : pc3.good Ev3 1000000 = true := by kernel_rfl
theorem pc3_call {args : List Value} {s : AS} (h : pc3.is args s = true) : CallOk E2 pc3.f args s pc3.v (pc3.to s) := piece_ok (E := Ev3) Ev3_ok pc3_ok h
end
end Go.Proofs.YtdcioacjhpnihaaGreatDoor
namespace Go.Proofs.YtdcioacjhpnihaaGreatDoor
open Go
noncomputable section
def pc7 : CE := ⟨5, [(I 4), (I 64)], 100, [(1, gFirst.2.obj),
 (2, gK.2.obj),
 (3, gBr),
 (4, gHalves.2.obj)], (Tu [(Pt 6950 0), tt]), 6951, [(1, gFirst.2.obj),
 (2, gK.2.obj),
 (3, gBr),
 (4, gHalves.2.obj),
 (100, (.chan 427 ⟨([(Ag qr4), (Ag qr13), (Ag qr0), (Ag qr5), (Ag qr6), (Ag qr7)] ++ (List.replicate 92 (Ag qr0)) ++ [(Ag qr12)] ++ (List.replicate 83 (Ag qr0)))⟩ false 512 0 false)),
 (101, (.cells ⟨[(.int .i64 (.negSucc 0)), e0, (Sx 100 0 182 182), s0, ff, (U 79)]⟩ 159 (0, 0))),
 (6005, (.cells ⟨[(Pt 101 0), (U 3), (U 4), (I 96), (St [0, 64, 0, 4]), (I 1), (U 4), (I 0), ff]⟩ 376 (0, 0))),
 (6035, (.map ⟨[⟨(I 0), (Ag qr12), 0⟩, ⟨(I 1), (Ag qr0), 1⟩]⟩ 2)),
 (6036, (.map ⟨[]⟩ 0)),
 (6037, (.map ⟨[]⟩ 0)),
 (6038, (.cells ⟨[(Pt 6005 0), (Pt 101 0), (I 64), (St [0, 4]), (Mp 6035), (Mp 6036), (Mp 6037), ff]⟩ 240 (0, 0))),
 (6434, (.cells ⟨[(Pt 6038 0), (Pt 6038 0), (I 32), (I 4), (I 0), (Pt 6038 0), (I 32), (I 6), (I 0), (Pt 6038 0), (I 4), (I 4), (I 0), (Pt 6038 0), (I 17), (I 33), (I 0), (Pt 6038 0), (I 1), (I 1), (I 0), (Pt 6038 0), (I 32), (I 5), (I 0), (Pt 6038 0), (I 33), (I 4), (I 0), (Pt 6038 0), (I 2), (I 5), (I 0), ff, (I 0)]⟩ 141 (0, 0))),
 (6780, (.cells ⟨[(Pt 6434 0), (I 4)]⟩ 133 (0, 0))),
 (6817, (.cells ⟨[(.int .u8 (.ofNat 0)), e0, (I 0), (.int .u8 (.ofNat 0)), e0, (I 0), (.int .u8 (.ofNat 0)), e0, (I 0), (.int .u8 (.ofNat 0)), e0, (I 0)]⟩ 326 (0, 0))),
 (6949, (.cells ⟨([(Pt 101 0), (Pt 6780 0), (Sx 6817 0 4 4)] ++ (List.replicate 5 s0) ++ [(.int .u32 (.ofNat 1116352408)), (.int .u32 (.ofNat 1899447441)), (.int .u32 (.ofNat 3049323471)), (.int .u32 (.ofNat 3921009573)), (.int .u32 (.ofNat 961987163)), (.int .u32 (.ofNat 1508970993)), (.int .u32 (.ofNat 2453635748)), (.int .u32 (.ofNat 2870763221)), (.int .u32 (.ofNat 3624381080)), (.int .u32 (.ofNat 310598401)), (.int .u32 (.ofNat 607225278)), (.int .u32 (.ofNat 1426881987)), (.int .u32 (.ofNat 1925078388)), (.int .u32 (.ofNat 2162078206)), (.int .u32 (.ofNat 2614888103)), (.int .u32 (.ofNat 3248222580)), (.int .u32 (.ofNat 3835390401)), (.int .u32 (.ofNat 4022224774)), (.int .u32 (.ofNat 264347078)), (.int .u32 (.ofNat 604807628)), (.int .u32 (.ofNat 770255983)), (.int .u32 (.ofNat 1249150122)), (.int .u32 (.ofNat 1555081692)), (.int .u32 (.ofNat 1996064986)), (.int .u32 (.ofNat 2554220882)), (.int .u32 (.ofNat 2821834349)), (.int .u32 (.ofNat 2952996808)), (.int .u32 (.ofNat 3210313671)), (.int .u32 (.ofNat 3336571891)), (.int .u32 (.ofNat 3584528711)), (.int .u32 (.ofNat 113926993)), (.int .u32 (.ofNat 338241895)), (.int .u32 (.ofNat 666307205)), (.int .u32 (.ofNat 773529912)), (.int .u32 (.ofNat 1294757372)), (.int .u32 (.ofNat 1396182291)), (.int .u32 (.ofNat 1695183700)), (.int .u32 (.ofNat 1986661051)), (.int .u32 (.ofNat 2177026350)), (.int .u32 (.ofNat 2456956037)), (.int .u32 (.ofNat 2730485921)), (.int .u32 (.ofNat 2820302411)), (.int .u32 (.ofNat 3259730800)), (.int .u32 (.ofNat 3345764771)), (.int .u32 (.ofNat 3516065817)), (.int .u32 (.ofNat 3600352804)), (.int .u32 (.ofNat 4094571909)), (.int .u32 (.ofNat 275423344)), (.int .u32 (.ofNat 430227734)), (.int .u32 (.ofNat 506948616)), (.int .u32 (.ofNat 659060556)), (.int .u32 (.ofNat 883997877)), (.int .u32 (.ofNat 958139571)), (.int .u32 (.ofNat 1322822218)), (.int .u32 (.ofNat 1537002063)), (.int .u32 (.ofNat 1747873779)), (.int .u32 (.ofNat 1955562222)), (.int .u32 (.ofNat 2024104815)), (.int .u32 (.ofNat 2227730452)), (.int .u32 (.ofNat 2361852424)), (.int .u32 (.ofNat 2428436474)), (.int .u32 (.ofNat 2756734187)), (.int .u32 (.ofNat 3204031479)), (.int .u32 (.ofNat 3329325298)), (.int .u32 (.ofNat 1779033703)), (.int .u32 (.ofNat 3144134277)), (.int .u32 (.ofNat 1013904242)), (.int .u32 (.ofNat 2773480762)), (.int .u32 (.ofNat 1359893119)), (.int .u32 (.ofNat 2600822924)), (.int .u32 (.ofNat 528734635)), (.int .u32 (.ofNat 1541459225)), (I 16)])⟩ 77 (0, 0))),
 (6950, (.cells ⟨([(Pt 6949 0), (Sx 6817 0 4 4)] ++ (List.replicate 5 s0) ++ [(.int .u32 (.ofNat 1116352408)), (.int .u32 (.ofNat 1899447441)), (.int .u32 (.ofNat 3049323471)), (.int .u32 (.ofNat 3921009573)), (.int .u32 (.ofNat 961987163)), (.int .u32 (.ofNat 1508970993)), (.int .u32 (.ofNat 2453635748)), (.int .u32 (.ofNat 2870763221)), (.int .u32 (.ofNat 3624381080)), (.int .u32 (.ofNat 310598401)), (.int .u32 (.ofNat 607225278)), (.int .u32 (.ofNat 1426881987)), (.int .u32 (.ofNat 1925078388)), (.int .u32 (.ofNat 2162078206)), (.int .u32 (.ofNat 2614888103)), (.int .u32 (.ofNat 3248222580)), (.int .u32 (.ofNat 3835390401)), (.int .u32 (.ofNat 4022224774)), (.int .u32 (.ofNat 264347078)), (.int .u32 (.ofNat 604807628)), (.int .u32 (.ofNat 770255983)), (.int .u32 (.ofNat 1249150122)), (.int .u32 (.ofNat 1555081692)), (.int .u32 (.ofNat 1996064986)), (.int .u32 (.ofNat 2554220882)), (.int .u32 (.ofNat 2821834349)), (.int .u32 (.ofNat 2952996808)), (.int .u32 (.ofNat 3210313671)), (.int .u32 (.ofNat 3336571891)), (.int .u32 (.ofNat 3584528711)), (.int .u32 (.ofNat 113926993)), (.int .u32 (.ofNat 338241895)), (.int .u32 (.ofNat 666307205)), (.int .u32 (.ofNat 773529912)), (.int .u32 (.ofNat 1294757372)), (.int .u32 (.ofNat 1396182291)), (.int .u32 (.ofNat 1695183700)), (.int .u32 (.ofNat 1986661051)), (.int .u32 (.ofNat 2177026350)), (.int .u32 (.ofNat 2456956037)), (.int .u32 (.ofNat 2730485921)), (.int .u32 (.ofNat 2820302411)), (.int .u32 (.ofNat 3259730800)), (.int .u32 (.ofNat 3345764771)), (.int .u32 (.ofNat 3516065817)), (.int .u32 (.ofNat 3600352804)), (.int .u32 (.ofNat 4094571909)), (.int .u32 (.ofNat 275423344)), (.int .u32 (.ofNat 430227734)), (.int .u32 (.ofNat 506948616)), (.int .u32 (.ofNat 659060556)), (.int .u32 (.ofNat 883997877)), (.int .u32 (.ofNat 958139571)), (.int .u32 (.ofNat 1322822218)), (.int .u32 (.ofNat 1537002063)), (.int .u32 (.ofNat 1747873779)), (.int .u32 (.ofNat 1955562222)), (.int .u32 (.ofNat 2024104815)), (.int .u32 (.ofNat 2227730452)), (.int .u32 (.ofNat 2361852424)), (.int .u32 (.ofNat 2428436474)), (.int .u32 (.ofNat 2756734187)), (.int .u32 (.ofNat 3204031479)), (.int .u32 (.ofNat 3329325298)), (.int .u32 (.ofNat 1779033703)), (.int .u32 (.ofNat 3144134277)), (.int .u32 (.ofNat 1013904242)), (.int .u32 (.ofNat 2773480762)), (.int .u32 (.ofNat 1359893119)), (.int .u32 (.ofNat 2600822924)), (.int .u32 (.ofNat 528734635)), (.int .u32 (.ofNat 1541459225)), (I 16), s0])⟩ 65 (0, 0)))]⟩
def Ev7 : Env := E2.more (pieceOf [pc3, pc5, pc6])
theorem Ev7_ok : Ev7.Ok := pieces_more fun c hc args s h => by
  simp only [List.mem_cons, List.not_mem_nil, or_false] at hc
  rcases hc with rfl | rfl | rfl
  · exact pc3_call h
  · exact pc5_call h
  · exact pc6_call h
set_option maxRecDepth 1000000 in
theorem pc7_ok : pc7.good Ev7 1000000 = true := by kernel_rfl
theorem pc7_call {args : List Value} {s : AS} (h : pc7.is args s = true) : CallOk E2 pc7.f args s pc7.v (pc7.to s) := piece_ok (E := Ev7) Ev7_ok pc7_ok h
end
end Go.Proofs.YtdcioacjhpnihaaGreatDoor
