/- A piece of the run: armarium/boxes.Mount 5214 6817. A piece of the run: armarium/armariumref03.Primes 6820 6948. The run of armarium/armariumlaw22.Begins: it answers; the tables stay. -/
import Derived.Test.YtjfdpdnmkoaolaaGreatDoorQ21
import Derived.Test.YtjfdpdnmkoaolaaGreatDoorQ35
set_option linter.all false
namespace Go.Proofs.YtjfdpdnmkoaolaaGreatDoor
open Go
noncomputable section
def pc24 : CE := ⟨29, [(Pt 101 0)], 5214, [(0, gFirst.2.obj),
 (1, gK.2.obj),
 (2, gBr),
 (4, gHalves.2.obj),
 (100, (.chan 429 ⟨([(Ag qr85), (Ag qr84), (Ag qr0), (Ag qr5), (Ag qr6), (Ag qr7)] ++ (List.replicate 92 (Ag qr0)) ++ [(Ag qr2)] ++ (List.replicate 78 (Ag qr0)))⟩ false 512 0 false)),
 (101, (.cells ⟨[(.int .i64 (.negSucc 0)), e0, (Sx 100 0 177 177), s0, ff, (U 74)]⟩ 184 (0, 0)))], (Tu [(Pt 6780 0), (I 0)]), 6817, [(0, gFirst.2.obj),
 (1, gK.2.obj),
 (2, gBr),
 (4, gHalves.2.obj),
 (100, (.chan 429 ⟨([(Ag qr85), (Ag qr86), (Ag qr0), (Ag qr5), (Ag qr6), (Ag qr7)] ++ (List.replicate 92 (Ag qr0)) ++ [(Ag qr12)] ++ (List.replicate 78 (Ag qr0)))⟩ false 512 0 false)),
 (101, (.cells ⟨[(.int .i64 (.negSucc 0)), e0, (Sx 100 0 177 177), s0, ff, (U 79)]⟩ 184 (0, 0))),
 (6005, (.cells ⟨[(Pt 101 0), (U 3), (U 4), (I 96), (St [0, 64, 0, 3]), (I 1), (U 4), (I 0), ff]⟩ 368 (0, 0))),
 (6035, (.map ⟨[⟨(I 0), (Ag qr12), 0⟩, ⟨(I 1), (Ag qr0), 1⟩]⟩ 2)),
 (6036, (.map ⟨[]⟩ 0)),
 (6037, (.map ⟨[]⟩ 0)),
 (6038, (.cells ⟨[(Pt 6005 0), (Pt 101 0), (I 64), (St [0, 3]), (Mp 6035), (Mp 6036), (Mp 6037), ff]⟩ 276 (0, 0))),
 (6434, (.cells ⟨[(Pt 6038 0), (Pt 6038 0), (I 32), (I 4), (I 0), (Pt 6038 0), (I 32), (I 6), (I 0), (Pt 6038 0), (I 4), (I 4), (I 0), (Pt 6038 0), (I 17), (I 33), (I 0), (Pt 6038 0), (I 1), (I 1), (I 0), (Pt 6038 0), (I 32), (I 5), (I 0), (Pt 6038 0), (I 33), (I 4), (I 0), (Pt 6038 0), (I 2), (I 5), (I 0), ff, (I 0)]⟩ 208 (0, 0))),
 (6780, (.cells ⟨[(Pt 6434 0), (I 3)]⟩ 122 (0, 0)))]⟩
def Ev24 : Env := E2.more (pieceOf [pc23])
theorem Ev24_ok : Ev24.Ok := pieces_more fun c hc args s h => by
  simp only [List.mem_cons, List.not_mem_nil, or_false] at hc
  subst hc
  exact pc23_call h
set_option maxRecDepth 1000000 in
theorem pc24_ok : pc24.good Ev24 1000000 = true := by kernel_rfl
theorem pc24_call {args : List Value} {s : AS} (h : pc24.is args s = true) : CallOk E2 pc24.f args s pc24.v (pc24.to s) := piece_ok (E := Ev24) Ev24_ok pc24_ok h
end
end Go.Proofs.YtjfdpdnmkoaolaaGreatDoor
namespace Go.Proofs.YtjfdpdnmkoaolaaGreatDoor
open Go
noncomputable section
def pc25 : CE := ⟨68, [(I 64)], 6820, [(0, gFirst.2.obj),
 (1, gK.2.obj),
 (2, gBr),
 (4, gHalves.2.obj)], (Sg 6947 0 0 64 64), 6948, [(0, gFirst.2.obj),
 (1, gK.2.obj),
 (2, gBr),
 (4, gHalves.2.obj),
 (6947, (.cells ⟨[(U 2), (U 3), (U 5), (U 7), (U 11), (U 13), (U 17), (U 19), (U 23), (U 29), (U 31), (U 37), (U 41), (U 43), (U 47), (U 53), (U 59), (U 61), (U 67), (U 71), (U 73), (U 79), (U 83), (U 89), (U 97), (U 101), (U 103), (U 107), (U 109), (U 113), (U 127), (U 131), (U 137), (U 139), (U 149), (U 151), (U 157), (U 163), (U 167), (U 173), (U 179), (U 181), (U 191), (U 193), (U 197), (U 199), (U 211), (U 223), (U 227), (U 229), (U 233), (U 239), (U 241), (U 251), (U 257), (U 263), (U 269), (U 271), (U 277), (U 281), (U 283), (U 293), (U 307), (U 311)]⟩ 182 (0, 0)))]⟩
set_option maxRecDepth 1000000 in
theorem pc25_ok : pc25.good E2 1000000 = true := by kernel_rfl
theorem pc25_call {args : List Value} {s : AS} (h : pc25.is args s = true) : CallOk E2 pc25.f args s pc25.v (pc25.to s) := piece_ok (E := E2) E2_ok pc25_ok h
end
end Go.Proofs.YtjfdpdnmkoaolaaGreatDoor
namespace Go.Proofs.YtjfdpdnmkoaolaaGreatDoor
open Go Go.RowKit
noncomputable section
def EvBegins : Env := E2.more (pieceOf [pc22, pc24, pc25])
theorem EvBegins_ok : EvBegins.Ok := pieces_more fun c hc args s h => by
  simp only [List.mem_cons, List.not_mem_nil, or_false] at hc
  rcases hc with rfl | rfl | rfl
  · exact pc22_call h
  · exact pc24_call h
  · exact pc25_call h
end
end Go.Proofs.YtjfdpdnmkoaolaaGreatDoor
