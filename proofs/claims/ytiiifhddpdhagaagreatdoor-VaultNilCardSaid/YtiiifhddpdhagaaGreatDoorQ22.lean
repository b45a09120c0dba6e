/- A piece of the run: (*armarium/forest.Forest).Do 26818. A piece of the run: (*armarium/vault.Vault).Read 29787. A piece of the run: (*armarium/vault.Vault).Read 32850. -/
import Derived.Test.YtiiifhddpdhagaaGreatDoorQ16
set_option linter.all false
namespace Go.Proofs.YtiiifhddpdhagaaGreatDoor
open Go
noncomputable section
def pc10 : CE := ⟨29, [(Pt 6436 0), (Fn 172 [] [(Pt 7668 0), (Pt 7671 0), (Pt 7670 0), (Pt 7669 0)])], 26818, [(0, gFirst.2.obj),
 (1, gHalves.2.obj),
 (3, gK.2.obj),
 (4, gBr),
 (101, (.chan 432 ⟨([(Ag qr4), (Ag qr13), (Ag qr0), (Ag qr5), (Ag qr6), (Ag qr7), (Ag qr20), (Ag qr21), (Ag qr22), (Ag qr23), (Ag qr31), (Ag qr32), (Ag qr33), (Ag qr34), (Ag qr35), (Ag qr36), (Ag qr37), (Ag qr44), (Ag qr45), (Ag qr46), (Ag qr47), (Ag qr48), (Ag qr49), (Ag qr55), (Ag qr56), (Ag qr57), (Ag qr58), (Ag qr59), (Ag qr60)] ++ (List.replicate 69 (Ag qr0)) ++ [(Ag qr12)] ++ (List.replicate 64 (Ag qr0)) ++ [(Ag qr61)] ++ (List.replicate 18 (Ag qr0)))⟩ false 512 0 false)),
 (102, (.cells ⟨[(.int .i64 (.negSucc 0)), e0, (Sx 101 0 182 182), s0, ff, (U 112)]⟩ 208 (0, 0))),
 (6007, (.cells ⟨[(Pt 102 0), (U 3), (U 4), (I 96), (St [0, 64, 0, 4]), (I 1), (U 27), (I 23), ff]⟩ 387 (0, 0))),
 (6037, (.chan 0 ⟨[(Tu [(I 2), (Ag qr25)]), (Tu [(I 1), (Ag qr43)]), (Tu [(I 0), (Ag qr39)]), (Tu [(I 3), (Ag qr62)]), (Tu [(I 4), (Ag qr63)]), (Tu [(I 5), (Ag qr64)]), (Tu [(I 6), (Ag qr65)])]⟩ true 0 0 false)),
 (6038, (.chan 0 ⟨[(Tu [(I 2), tt]), (Tu [(I 1), tt]), (Tu [(I 0), tt]), (Tu [(I 3), tt]), (Tu [(I 4), tt]), (Tu [(I 5), tt]), (Tu [(I 6), tt])]⟩ true 0 0 false)),
 (6039, (.map ⟨[]⟩ 19)),
 (6040, (.cells ⟨[(Pt 6007 0), (Pt 102 0), (I 64), (St [0, 4]), (Mp 6037), (Mp 6038), (Mp 6039), ff]⟩ 242 (0, 0))),
 (6436, (.cells ⟨[(Pt 6040 0), (Pt 6040 0), (I 32), (I 4), (I 5), (Pt 6040 0), (I 32), (I 6), (I 4), (Pt 6040 0), (I 4), (I 4), (I 0), (Pt 6040 0), (I 17), (I 33), (I 0), (Pt 6040 0), (I 1), (I 1), (I 2), (Pt 6040 0), (I 32), (I 5), (I 6), (Pt 6040 0), (I 33), (I 4), (I 0), (Pt 6040 0), (I 2), (I 5), (I 3), ff, (I 0)]⟩ 147 (0, 0))),
 (6782, (.cells ⟨[(Pt 6436 0), (I 4)]⟩ 139 (0, 0))),
 (7668, (.cells ⟨[(Pt 6782 0)]⟩ 47 (0, 0))),
 (7669, (.cells ⟨[(St [115])]⟩ 9 (0, 0))),
 (7670, (.cells ⟨[(Pt 6436 0)]⟩ 78 (0, 0))),
 (7671, (.cells ⟨qr19⟩ 73 (0, 0)))], (I 0), 29787, [(0, gFirst.2.obj),
 (1, gHalves.2.obj),
 (3, gK.2.obj),
 (4, gBr),
 (101, (.chan 432 ⟨([(Ag qr4), (Ag qr13), (Ag qr0), (Ag qr5), (Ag qr6), (Ag qr7), (Ag qr20), (Ag qr21), (Ag qr22), (Ag qr23), (Ag qr31), (Ag qr32), (Ag qr33), (Ag qr34), (Ag qr35), (Ag qr36), (Ag qr37), (Ag qr44), (Ag qr45), (Ag qr46), (Ag qr47), (Ag qr48), (Ag qr49), (Ag qr55), (Ag qr56), (Ag qr57), (Ag qr58), (Ag qr59), (Ag qr60), (Ag qr66), (Ag qr67), (Ag qr68), (Ag qr69)] ++ (List.replicate 65 (Ag qr0)) ++ [(Ag qr12)] ++ (List.replicate 64 (Ag qr0)) ++ [(Ag qr61)] ++ (List.replicate 18 (Ag qr0)))⟩ false 512 0 false)),
 (102, (.cells ⟨[(.int .i64 (.negSucc 0)), e0, (Sx 101 0 182 182), s0, ff, (U 117)]⟩ 208 (0, 0))),
 (6007, (.cells ⟨[(Pt 102 0), (U 3), (U 4), (I 96), (St [0, 64, 0, 4]), (I 1), (U 31), (I 27), ff]⟩ 387 (0, 0))),
 (6037, (.chan 0 ⟨[(Tu [(I 2), (Ag qr25)]), (Tu [(I 3), (Ag qr62)]), (Tu [(I 4), (Ag qr63)]), (Tu [(I 5), (Ag qr64)]), (Tu [(I 0), (Ag qr70)]), (Tu [(I 6), (Ag qr71)]), (Tu [(I 1), (Ag qr72)])]⟩ true 0 0 false)),
 (6038, (.chan 0 ⟨[(Tu [(I 2), tt]), (Tu [(I 3), tt]), (Tu [(I 4), tt]), (Tu [(I 5), tt]), (Tu [(I 0), tt]), (Tu [(I 6), tt]), (Tu [(I 1), tt])]⟩ true 0 0 false)),
 (6039, (.map ⟨[]⟩ 22)),
 (6040, (.cells ⟨[(Pt 6007 0), (Pt 102 0), (I 64), (St [0, 4]), (Mp 6037), (Mp 6038), (Mp 6039), ff]⟩ 242 (0, 0))),
 (6436, (.cells ⟨[(Pt 6040 0), (Pt 6040 0), (I 32), (I 4), (I 5), (Pt 6040 0), (I 32), (I 6), (I 4), (Pt 6040 0), (I 4), (I 4), (I 0), (Pt 6040 0), (I 17), (I 33), (I 6), (Pt 6040 0), (I 1), (I 1), (I 0), (Pt 6040 0), (I 32), (I 5), (I 0), (Pt 6040 0), (I 33), (I 4), (I 0), (Pt 6040 0), (I 2), (I 5), (I 3), ff, (I 0)]⟩ 147 (0, 0))),
 (6782, (.cells ⟨[(Pt 6436 0), (I 4)]⟩ 139 (0, 0))),
 (7668, (.cells ⟨[(Pt 6782 0)]⟩ 47 (0, 0))),
 (7669, (.cells ⟨[(St [115])]⟩ 9 (0, 0))),
 (7670, (.cells ⟨[(Pt 6436 0)]⟩ 78 (0, 0))),
 (7671, (.cells ⟨qr19⟩ 73 (0, 0)))]⟩
set_option maxRecDepth 1000000 in
theorem pc10_ok : pc10.good E2 1000000 = true := by kernel_rfl
theorem pc10_call {args : List Value} {s : AS} (h : pc10.is args s = true) : CallOk E2 pc10.f args s pc10.v (pc10.to s) := piece_ok (E := E2) E2_ok pc10_ok h
end
end Go.Proofs.YtiiifhddpdhagaaGreatDoor
namespace Go.Proofs.YtiiifhddpdhagaaGreatDoor
open Go
noncomputable section
def pc11 : CE := ⟨6, [(Pt 6823 0), (St [115]), (St [100, 47, 120])], 29787, [(0, gFirst.2.obj),
 (1, gHalves.2.obj),
 (3, gK.2.obj),
 (4, gBr),
 (101, (.chan 432 ⟨([(Ag qr4), (Ag qr13), (Ag qr0), (Ag qr5), (Ag qr6), (Ag qr7), (Ag qr20), (Ag qr21), (Ag qr22), (Ag qr23), (Ag qr31), (Ag qr32), (Ag qr33), (Ag qr34), (Ag qr35), (Ag qr36), (Ag qr37), (Ag qr44), (Ag qr45), (Ag qr46), (Ag qr47), (Ag qr48), (Ag qr49), (Ag qr55), (Ag qr56), (Ag qr57), (Ag qr58), (Ag qr59), (Ag qr60), (Ag qr66), (Ag qr67), (Ag qr68), (Ag qr69)] ++ (List.replicate 65 (Ag qr0)) ++ [(Ag qr12)] ++ (List.replicate 64 (Ag qr0)) ++ [(Ag qr61)] ++ (List.replicate 18 (Ag qr0)))⟩ false 512 0 false)),
 (102, (.cells ⟨[(.int .i64 (.negSucc 0)), e0, (Sx 101 0 182 182), s0, ff, (U 117)]⟩ 208 (0, 0))),
 (6007, (.cells ⟨[(Pt 102 0), (U 3), (U 4), (I 96), (St [0, 64, 0, 4]), (I 1), (U 31), (I 27), ff]⟩ 387 (0, 0))),
 (6037, (.chan 0 ⟨[(Tu [(I 2), (Ag qr25)]), (Tu [(I 3), (Ag qr62)]), (Tu [(I 4), (Ag qr63)]), (Tu [(I 5), (Ag qr64)]), (Tu [(I 0), (Ag qr70)]), (Tu [(I 6), (Ag qr71)]), (Tu [(I 1), (Ag qr72)])]⟩ true 0 0 false)),
 (6038, (.chan 0 ⟨[(Tu [(I 2), tt]), (Tu [(I 3), tt]), (Tu [(I 4), tt]), (Tu [(I 5), tt]), (Tu [(I 0), tt]), (Tu [(I 6), tt]), (Tu [(I 1), tt])]⟩ true 0 0 false)),
 (6039, (.map ⟨[]⟩ 22)),
 (6040, (.cells ⟨[(Pt 6007 0), (Pt 102 0), (I 64), (St [0, 4]), (Mp 6037), (Mp 6038), (Mp 6039), ff]⟩ 242 (0, 0))),
 (6436, (.cells ⟨[(Pt 6040 0), (Pt 6040 0), (I 32), (I 4), (I 5), (Pt 6040 0), (I 32), (I 6), (I 4), (Pt 6040 0), (I 4), (I 4), (I 0), (Pt 6040 0), (I 17), (I 33), (I 6), (Pt 6040 0), (I 1), (I 1), (I 0), (Pt 6040 0), (I 32), (I 5), (I 0), (Pt 6040 0), (I 33), (I 4), (I 0), (Pt 6040 0), (I 2), (I 5), (I 3), ff, (I 0)]⟩ 147 (0, 0))),
 (6782, (.cells ⟨[(Pt 6436 0), (I 4)]⟩ 139 (0, 0))),
 (6823, (.cells ⟨[(Pt 6782 0)]⟩ 80 (0, 0)))], (Tu [(St [97, 98]), (I 0)]), 32850, [(0, gFirst.2.obj),
 (1, gHalves.2.obj),
 (3, gK.2.obj),
 (4, gBr),
 (101, (.chan 432 ⟨([(Ag qr4), (Ag qr13), (Ag qr0), (Ag qr5), (Ag qr6), (Ag qr7), (Ag qr20), (Ag qr21), (Ag qr22), (Ag qr23), (Ag qr31), (Ag qr32), (Ag qr33), (Ag qr34), (Ag qr35), (Ag qr36), (Ag qr37), (Ag qr44), (Ag qr45), (Ag qr46), (Ag qr47), (Ag qr48), (Ag qr49), (Ag qr55), (Ag qr56), (Ag qr57), (Ag qr58), (Ag qr59), (Ag qr60), (Ag qr66), (Ag qr67), (Ag qr68), (Ag qr69)] ++ (List.replicate 65 (Ag qr0)) ++ [(Ag qr12)] ++ (List.replicate 64 (Ag qr0)) ++ [(Ag qr61)] ++ (List.replicate 18 (Ag qr0)))⟩ false 512 0 false)),
 (102, (.cells ⟨[(.int .i64 (.negSucc 0)), e0, (Sx 101 0 182 182), s0, ff, (U 117)]⟩ 208 (0, 0))),
 (6007, (.cells ⟨[(Pt 102 0), (U 3), (U 4), (I 96), (St [0, 64, 0, 4]), (I 1), (U 31), (I 27), ff]⟩ 387 (0, 0))),
 (6037, (.chan 0 ⟨[(Tu [(I 2), (Ag qr25)]), (Tu [(I 3), (Ag qr62)]), (Tu [(I 4), (Ag qr63)]), (Tu [(I 5), (Ag qr64)]), (Tu [(I 0), (Ag qr70)]), (Tu [(I 6), (Ag qr71)]), (Tu [(I 1), (Ag qr72)])]⟩ true 0 0 false)),
 (6038, (.chan 0 ⟨[(Tu [(I 2), tt]), (Tu [(I 3), tt]), (Tu [(I 4), tt]), (Tu [(I 5), tt]), (Tu [(I 0), tt]), (Tu [(I 6), tt]), (Tu [(I 1), tt])]⟩ true 0 0 false)),
 (6039, (.map ⟨[]⟩ 22)),
 (6040, (.cells ⟨[(Pt 6007 0), (Pt 102 0), (I 64), (St [0, 4]), (Mp 6037), (Mp 6038), (Mp 6039), ff]⟩ 242 (0, 0))),
 (6436, (.cells ⟨[(Pt 6040 0), (Pt 6040 0), (I 32), (I 4), (I 5), (Pt 6040 0), (I 32), (I 6), (I 4), (Pt 6040 0), (I 4), (I 4), (I 0), (Pt 6040 0), (I 17), (I 33), (I 6), (Pt 6040 0), (I 1), (I 1), (I 0), (Pt 6040 0), (I 32), (I 5), (I 0), (Pt 6040 0), (I 33), (I 4), (I 0), (Pt 6040 0), (I 2), (I 5), (I 3), ff, (I 0)]⟩ 147 (0, 0))),
 (6782, (.cells ⟨[(Pt 6436 0), (I 4)]⟩ 139 (0, 0))),
 (6823, (.cells ⟨[(Pt 6782 0)]⟩ 80 (0, 0)))]⟩
set_option maxRecDepth 1000000 in
theorem pc11_ok : pc11.good E2 1000000 = true := by kernel_rfl
theorem pc11_call {args : List Value} {s : AS} (h : pc11.is args s = true) : CallOk E2 pc11.f args s pc11.v (pc11.to s) := piece_ok (E := E2) E2_ok pc11_ok h
end
end Go.Proofs.YtiiifhddpdhagaaGreatDoor
namespace Go.Proofs.YtiiifhddpdhagaaGreatDoor
open Go
noncomputable section
def pc12 : CE := ⟨6, [(Pt 6823 0), (St [115]), (St [100])], 32850, [(0, gFirst.2.obj),
 (1, gHalves.2.obj),
 (3, gK.2.obj),
 (4, gBr),
 (101, (.chan 432 ⟨([(Ag qr4), (Ag qr13), (Ag qr0), (Ag qr5), (Ag qr6), (Ag qr7), (Ag qr20), (Ag qr21), (Ag qr22), (Ag qr23), (Ag qr31), (Ag qr32), (Ag qr33), (Ag qr34), (Ag qr35), (Ag qr36), (Ag qr37), (Ag qr44), (Ag qr45), (Ag qr46), (Ag qr47), (Ag qr48), (Ag qr49), (Ag qr55), (Ag qr56), (Ag qr57), (Ag qr58), (Ag qr59), (Ag qr60), (Ag qr66), (Ag qr67), (Ag qr68), (Ag qr69)] ++ (List.replicate 65 (Ag qr0)) ++ [(Ag qr12)] ++ (List.replicate 64 (Ag qr0)) ++ [(Ag qr61)] ++ (List.replicate 18 (Ag qr0)))⟩ false 512 0 false)),
 (102, (.cells ⟨[(.int .i64 (.negSucc 0)), e0, (Sx 101 0 182 182), s0, ff, (U 117)]⟩ 208 (0, 0))),
 (6007, (.cells ⟨[(Pt 102 0), (U 3), (U 4), (I 96), (St [0, 64, 0, 4]), (I 1), (U 31), (I 27), ff]⟩ 387 (0, 0))),
 (6037, (.chan 0 ⟨[(Tu [(I 2), (Ag qr25)]), (Tu [(I 3), (Ag qr62)]), (Tu [(I 4), (Ag qr63)]), (Tu [(I 5), (Ag qr64)]), (Tu [(I 0), (Ag qr70)]), (Tu [(I 6), (Ag qr71)]), (Tu [(I 1), (Ag qr72)])]⟩ true 0 0 false)),
 (6038, (.chan 0 ⟨[(Tu [(I 2), tt]), (Tu [(I 3), tt]), (Tu [(I 4), tt]), (Tu [(I 5), tt]), (Tu [(I 0), tt]), (Tu [(I 6), tt]), (Tu [(I 1), tt])]⟩ true 0 0 false)),
 (6039, (.map ⟨[]⟩ 22)),
 (6040, (.cells ⟨[(Pt 6007 0), (Pt 102 0), (I 64), (St [0, 4]), (Mp 6037), (Mp 6038), (Mp 6039), ff]⟩ 242 (0, 0))),
 (6436, (.cells ⟨[(Pt 6040 0), (Pt 6040 0), (I 32), (I 4), (I 5), (Pt 6040 0), (I 32), (I 6), (I 4), (Pt 6040 0), (I 4), (I 4), (I 0), (Pt 6040 0), (I 17), (I 33), (I 6), (Pt 6040 0), (I 1), (I 1), (I 0), (Pt 6040 0), (I 32), (I 5), (I 0), (Pt 6040 0), (I 33), (I 4), (I 0), (Pt 6040 0), (I 2), (I 5), (I 3), ff, (I 0)]⟩ 147 (0, 0))),
 (6782, (.cells ⟨[(Pt 6436 0), (I 4)]⟩ 139 (0, 0))),
 (6823, (.cells ⟨[(Pt 6782 0)]⟩ 80 (0, 0)))], (Tu [e0, (I 11)]), 34105, [(0, gFirst.2.obj),
 (1, gHalves.2.obj),
 (3, gK.2.obj),
 (4, gBr),
 (101, (.chan 432 ⟨([(Ag qr4), (Ag qr13), (Ag qr0), (Ag qr5), (Ag qr6), (Ag qr7), (Ag qr20), (Ag qr21), (Ag qr22), (Ag qr23), (Ag qr31), (Ag qr32), (Ag qr33), (Ag qr34), (Ag qr35), (Ag qr36), (Ag qr37), (Ag qr44), (Ag qr45), (Ag qr46), (Ag qr47), (Ag qr48), (Ag qr49), (Ag qr55), (Ag qr56), (Ag qr57), (Ag qr58), (Ag qr59), (Ag qr60), (Ag qr66), (Ag qr67), (Ag qr68), (Ag qr69)] ++ (List.replicate 65 (Ag qr0)) ++ [(Ag qr12)] ++ (List.replicate 64 (Ag qr0)) ++ [(Ag qr61)] ++ (List.replicate 18 (Ag qr0)))⟩ false 512 0 false)),
 (102, (.cells ⟨[(.int .i64 (.negSucc 0)), e0, (Sx 101 0 182 182), s0, ff, (U 117)]⟩ 208 (0, 0))),
 (6007, (.cells ⟨[(Pt 102 0), (U 3), (U 4), (I 96), (St [0, 64, 0, 4]), (I 1), (U 31), (I 27), ff]⟩ 387 (0, 0))),
 (6037, (.chan 0 ⟨[(Tu [(I 2), (Ag qr25)]), (Tu [(I 3), (Ag qr62)]), (Tu [(I 4), (Ag qr63)]), (Tu [(I 5), (Ag qr64)]), (Tu [(I 0), (Ag qr70)]), (Tu [(I 6), (Ag qr71)]), (Tu [(I 1), (Ag qr72)])]⟩ true 0 0 false)),
 (6038, (.chan 0 ⟨[(Tu [(I 2), tt]), (Tu [(I 3), tt]), (Tu [(I 4), tt]), (Tu [(I 5), tt]), (Tu [(I 0), tt]), (Tu [(I 6), tt]), (Tu [(I 1), tt])]⟩ true 0 0 false)),
 (6039, (.map ⟨[]⟩ 22)),
 (6040, (.cells ⟨[(Pt 6007 0), (Pt 102 0), (I 64), (St [0, 4]), (Mp 6037), (Mp 6038), (Mp 6039), ff]⟩ 242 (0, 0))),
 (6436, (.cells ⟨[(Pt 6040 0), (Pt 6040 0), (I 32), (I 4), (I 5), (Pt 6040 0), (I 32), (I 6), (I 4), (Pt 6040 0), (I 4), (I 4), (I 0), (Pt 6040 0), (I 17), (I 33), (I 6), (Pt 6040 0), (I 1), (I 1), (I 0), (Pt 6040 0), (I 32), (I 5), (I 0), (Pt 6040 0), (I 33), (I 4), (I 0), (Pt 6040 0), (I 2), (I 5), (I 3), ff, (I 0)]⟩ 147 (0, 0))),
 (6782, (.cells ⟨[(Pt 6436 0), (I 4)]⟩ 139 (0, 0))),
 (6823, (.cells ⟨[(Pt 6782 0)]⟩ 80 (0, 0)))]⟩
set_option maxRecDepth 1000000 in
theorem pc12_ok : pc12.good E2 1000000 = true := by kernel_rfl
theorem pc12_call {args : List Value} {s : AS} (h : pc12.is args s = true) : CallOk E2 pc12.f args s pc12.v (pc12.to s) := piece_ok (E := E2) E2_ok pc12_ok h
end
end Go.Proofs.YtiiifhddpdhagaaGreatDoor
