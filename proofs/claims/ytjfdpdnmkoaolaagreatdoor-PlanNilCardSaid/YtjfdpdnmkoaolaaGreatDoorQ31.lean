/- A piece of the run: armarium/plan.Run 27283 33742. -/
import Derived.Test.YtjfdpdnmkoaolaaGreatDoorQ21
import Derived.Test.YtjfdpdnmkoaolaaGreatDoorQ30
set_option linter.all false
namespace Go.Proofs.YtjfdpdnmkoaolaaGreatDoor
open Go
noncomputable section
def pc13 : CE := ⟨6, [(Pt 6782 0), (I 1)], 27283, [(0, gFirst.2.obj),
 (1, gK.2.obj),
 (2, gBr),
 (4, gHalves.2.obj),
 (101, (.chan 429 ⟨([(Ag qr4), (Ag qr13), (Ag qr0), (Ag qr5), (Ag qr6), (Ag qr7), (Ag qr18), (Ag qr19), (Ag qr20), (Ag qr21), (Ag qr29), (Ag qr30), (Ag qr31), (Ag qr32), (Ag qr33), (Ag qr34), (Ag qr35), (Ag qr42), (Ag qr43), (Ag qr44), (Ag qr45), (Ag qr46), (Ag qr47), (Ag qr53), (Ag qr54), (Ag qr55), (Ag qr56), (Ag qr62), (Ag qr63), (Ag qr64), (Ag qr65)] ++ (List.replicate 67 (Ag qr0)) ++ [(Ag qr12)] ++ (List.replicate 64 (Ag qr0)) ++ [(Ag qr48)] ++ (List.replicate 18 (Ag qr0)))⟩ false 512 0 false)),
 (102, (.cells ⟨[(.int .i64 (.negSucc 0)), e0, (Sx 101 0 182 182), s0, ff, (U 113)]⟩ 184 (0, 0))),
 (6007, (.cells ⟨[(Pt 102 0), (U 3), (U 4), (I 96), (St [0, 64, 0, 4]), (I 1), (U 29), (I 25), ff]⟩ 368 (0, 0))),
 (6037, (.chan 0 ⟨[(Tu [(I 3), (Ag qr49)]), (Tu [(I 4), (Ag qr50)]), (Tu [(I 5), (Ag qr51)]), (Tu [(I 6), (Ag qr58)]), (Tu [(I 0), (Ag qr27)]), (Tu [(I 2), (Ag qr66)]), (Tu [(I 1), (Ag qr67)])]⟩ true 0 0 false)),
 (6038, (.chan 0 ⟨[(Tu [(I 3), tt]), (Tu [(I 4), tt]), (Tu [(I 5), tt]), (Tu [(I 6), tt]), (Tu [(I 0), tt]), (Tu [(I 2), tt]), (Tu [(I 1), tt])]⟩ true 0 0 false)),
 (6039, (.map ⟨[]⟩ 20)),
 (6040, (.cells ⟨[(Pt 6007 0), (Pt 102 0), (I 64), (St [0, 4]), (Mp 6037), (Mp 6038), (Mp 6039), ff]⟩ 276 (0, 0))),
 (6436, (.cells ⟨[(Pt 6040 0), (Pt 6040 0), (I 32), (I 4), (I 5), (Pt 6040 0), (I 32), (I 6), (I 4), (Pt 6040 0), (I 4), (I 4), (I 0), (Pt 6040 0), (I 17), (I 33), (I 0), (Pt 6040 0), (I 1), (I 1), (I 0), (Pt 6040 0), (I 32), (I 5), (I 0), (Pt 6040 0), (I 33), (I 4), (I 2), (Pt 6040 0), (I 2), (I 5), (I 3), ff, (I 0)]⟩ 208 (0, 0))),
 (6782, (.cells ⟨[(Pt 6436 0), (I 4)]⟩ 122 (0, 0)))], (Tu [(Ag [(I 1), (I 0), tt]), (I 0)]), 33742, [(0, gFirst.2.obj),
 (1, gK.2.obj),
 (2, gBr),
 (4, gHalves.2.obj),
 (101, (.chan 429 ⟨([(Ag qr4), (Ag qr13), (Ag qr0), (Ag qr5), (Ag qr6), (Ag qr7), (Ag qr18), (Ag qr19), (Ag qr20), (Ag qr21), (Ag qr29), (Ag qr30), (Ag qr31), (Ag qr32), (Ag qr33), (Ag qr34), (Ag qr35), (Ag qr42), (Ag qr43), (Ag qr44), (Ag qr45), (Ag qr46), (Ag qr47), (Ag qr53), (Ag qr54), (Ag qr55), (Ag qr56), (Ag qr62), (Ag qr63), (Ag qr64), (Ag qr65), (Ag qr68), (Ag qr69), (Ag qr70), (Ag qr71), (Ag qr72), (Ag qr73)] ++ (List.replicate 61 (Ag qr0)) ++ [(Ag qr12)] ++ (List.replicate 64 (Ag qr0)) ++ [(Ag qr48)] ++ (List.replicate 18 (Ag qr0)))⟩ false 512 0 false)),
 (102, (.cells ⟨[(.int .i64 (.negSucc 0)), e0, (Sx 101 0 182 182), s0, ff, (U 120)]⟩ 184 (0, 0))),
 (6007, (.cells ⟨[(Pt 102 0), (U 3), (U 4), (I 96), (St [0, 64, 0, 4]), (I 1), (U 35), (I 31), ff]⟩ 368 (0, 0))),
 (6037, (.chan 0 ⟨[(Tu [(I 6), (Ag qr58)]), (Tu [(I 1), (Ag qr67)]), (Tu [(I 5), (Ag qr40)]), (Tu [(I 0), (Ag qr27)]), (Tu [(I 3), (Ag qr74)]), (Tu [(I 4), (Ag qr39)]), (Tu [(I 2), (Ag qr75)])]⟩ true 0 0 false)),
 (6038, (.chan 0 ⟨[(Tu [(I 6), tt]), (Tu [(I 1), tt]), (Tu [(I 5), tt]), (Tu [(I 0), tt]), (Tu [(I 3), tt]), (Tu [(I 4), tt]), (Tu [(I 2), tt])]⟩ true 0 0 false)),
 (6039, (.map ⟨[]⟩ 25)),
 (6040, (.cells ⟨[(Pt 6007 0), (Pt 102 0), (I 64), (St [0, 4]), (Mp 6037), (Mp 6038), (Mp 6039), ff]⟩ 276 (0, 0))),
 (6436, (.cells ⟨[(Pt 6040 0), (Pt 6040 0), (I 32), (I 4), (I 5), (Pt 6040 0), (I 32), (I 6), (I 4), (Pt 6040 0), (I 4), (I 4), (I 0), (Pt 6040 0), (I 17), (I 33), (I 0), (Pt 6040 0), (I 1), (I 1), (I 0), (Pt 6040 0), (I 32), (I 5), (I 0), (Pt 6040 0), (I 33), (I 4), (I 2), (Pt 6040 0), (I 2), (I 5), (I 3), ff, (I 0)]⟩ 208 (0, 0))),
 (6782, (.cells ⟨[(Pt 6436 0), (I 4)]⟩ 122 (0, 0)))]⟩
def Ev13 : Env := E2.more (pieceOf [pc12])
theorem Ev13_ok : Ev13.Ok := pieces_more fun c hc args s h => by
  simp only [List.mem_cons, List.not_mem_nil, or_false] at hc
  subst hc
  exact pc12_call h
set_option maxRecDepth 1000000 in
theorem pc13_ok : pc13.good Ev13 1000000 = true := by kernel_rfl
theorem pc13_call {args : List Value} {s : AS} (h : pc13.is args s = true) : CallOk E2 pc13.f args s pc13.v (pc13.to s) := piece_ok (E := Ev13) Ev13_ok pc13_ok h
end
end Go.Proofs.YtjfdpdnmkoaolaaGreatDoor
