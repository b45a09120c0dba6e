/- A piece of the run: (*armarium/vault.Vault).Dir 34105. A piece of the run: (*armarium/vault.Vault).Free 36354. A piece of the run: armarium/armariumlaw26.Text 37914. -/
import Derived.Test.YtiiifhddpdhagaaGreatDoorQ16
set_option linter.all false
namespace Go.Proofs.YtiiifhddpdhagaaGreatDoor
open Go
noncomputable section
def pc13 : CE := ⟨7, [(Pt 6823 0), (St [115]), (St [100])], 34105, [(0, gFirst.2.obj),
 (1, gHalves.2.obj),
 (3, gK.2.obj),
 (4, gBr),
 (101, (.chan 432 ⟨([(Ag qr4), (Ag qr13), (Ag qr0), (Ag qr5), (Ag qr6), (Ag qr7), (Ag qr20), (Ag qr21), (Ag qr22), (Ag qr23), (Ag qr31), (Ag qr32), (Ag qr33), (Ag qr34), (Ag qr35), (Ag qr36), (Ag qr37), (Ag qr44), (Ag qr45), (Ag qr46), (Ag qr47), (Ag qr48), (Ag qr49), (Ag qr55), (Ag qr56), (Ag qr57), (Ag qr58), (Ag qr59), (Ag qr60), (Ag qr66), (Ag qr67), (Ag qr68), (Ag qr69)] ++ (List.replicate 65 (Ag qr0)) ++ [(Ag qr12)] ++ (List.replicate 64 (Ag qr0)) ++ [(Ag qr61)] ++ (List.replicate 18 (Ag qr0)))⟩ false 512 0 false)),
 (102, (.cells ⟨[(.int .i64 (.negSucc 0)), e0, (Sx 101 0 182 182), s0, ff, (U 117)]⟩ 208 (0, 0))),
 (6007, (.cells ⟨[(Pt 102 0), (U 3), (U 4), (I 96), (St [0, 64, 0, 4]), (I 1), (U 31), (I 27), ff]⟩ 387 (0, 0))),
 (6037, (.chan 0 ⟨[(Tu [(I 2), (Ag qr25)]), (Tu [(I 3), (Ag qr62)]), (Tu [(I 4), (Ag qr63)]), (Tu [(I 5), (Ag qr64)]), (Tu [(I 0), (Ag qr70)]), (Tu [(I 6), (Ag qr71)]), (Tu [(I 1), (Ag qr72)])]⟩ true 0 0 false)),
 (6038, (.chan 0 ⟨[(Tu [(I 2), tt]), (Tu [(I 3), tt]), (Tu [(I 4), tt]), (Tu [(I 5), tt]), (Tu [(I 0), tt]), (Tu [(I 6), tt]), (Tu [(I 1), tt])]⟩ true 0 0 false)),
 (6039, (.map ⟨[]⟩ 22)),
 (6040, (.cells ⟨[(Pt 6007 0), (Pt 102 0), (I 64), (St [0, 4]), (Mp 6037), (Mp 6038), (Mp 6039), ff]⟩ 242 (0, 0))),
 (6436, (.cells ⟨[(Pt 6040 0), (Pt 6040 0), (I 32), (I 4), (I 5), (Pt 6040 0), (I 32), (I 6), (I 4), (Pt 6040 0), (I 4), (I 4), (I 0), (Pt 6040 0), (I 17), (I 33), (I 6), (Pt 6040 0), (I 1), (I 1), (I 0), (Pt 6040 0), (I 32), (I 5), (I 0), (Pt 6040 0), (I 33), (I 4), (I 0), (Pt 6040 0), (I 2), (I 5), (I 3), ff, (I 0)]⟩ 147 (0, 0))),
 (6782, (.cells ⟨[(Pt 6436 0), (I 4)]⟩ 139 (0, 0))),
 (6823, (.cells ⟨[(Pt 6782 0)]⟩ 80 (0, 0)))], (Tu [(Sg 36353 0 0 1 1), (I 0)]), 36354, [(0, gFirst.2.obj),
 (1, gHalves.2.obj),
 (3, gK.2.obj),
 (4, gBr),
 (101, (.chan 432 ⟨([(Ag qr4), (Ag qr13), (Ag qr0), (Ag qr5), (Ag qr6), (Ag qr7), (Ag qr20), (Ag qr21), (Ag qr22), (Ag qr23), (Ag qr31), (Ag qr32), (Ag qr33), (Ag qr34), (Ag qr35), (Ag qr36), (Ag qr37), (Ag qr44), (Ag qr45), (Ag qr46), (Ag qr47), (Ag qr48), (Ag qr49), (Ag qr55), (Ag qr56), (Ag qr57), (Ag qr58), (Ag qr59), (Ag qr60), (Ag qr66), (Ag qr67), (Ag qr68), (Ag qr69)] ++ (List.replicate 65 (Ag qr0)) ++ [(Ag qr12)] ++ (List.replicate 64 (Ag qr0)) ++ [(Ag qr61)] ++ (List.replicate 18 (Ag qr0)))⟩ false 512 0 false)),
 (102, (.cells ⟨[(.int .i64 (.negSucc 0)), e0, (Sx 101 0 182 182), s0, ff, (U 117)]⟩ 208 (0, 0))),
 (6007, (.cells ⟨[(Pt 102 0), (U 3), (U 4), (I 96), (St [0, 64, 0, 4]), (I 1), (U 31), (I 27), ff]⟩ 387 (0, 0))),
 (6037, (.chan 0 ⟨[(Tu [(I 2), (Ag qr25)]), (Tu [(I 3), (Ag qr62)]), (Tu [(I 4), (Ag qr63)]), (Tu [(I 5), (Ag qr64)]), (Tu [(I 0), (Ag qr70)]), (Tu [(I 6), (Ag qr71)]), (Tu [(I 1), (Ag qr72)])]⟩ true 0 0 false)),
 (6038, (.chan 0 ⟨[(Tu [(I 2), tt]), (Tu [(I 3), tt]), (Tu [(I 4), tt]), (Tu [(I 5), tt]), (Tu [(I 0), tt]), (Tu [(I 6), tt]), (Tu [(I 1), tt])]⟩ true 0 0 false)),
 (6039, (.map ⟨[]⟩ 22)),
 (6040, (.cells ⟨[(Pt 6007 0), (Pt 102 0), (I 64), (St [0, 4]), (Mp 6037), (Mp 6038), (Mp 6039), ff]⟩ 242 (0, 0))),
 (6436, (.cells ⟨[(Pt 6040 0), (Pt 6040 0), (I 32), (I 4), (I 5), (Pt 6040 0), (I 32), (I 6), (I 4), (Pt 6040 0), (I 4), (I 4), (I 0), (Pt 6040 0), (I 17), (I 33), (I 6), (Pt 6040 0), (I 1), (I 1), (I 0), (Pt 6040 0), (I 32), (I 5), (I 0), (Pt 6040 0), (I 33), (I 4), (I 0), (Pt 6040 0), (I 2), (I 5), (I 3), ff, (I 0)]⟩ 147 (0, 0))),
 (6782, (.cells ⟨[(Pt 6436 0), (I 4)]⟩ 139 (0, 0))),
 (6823, (.cells ⟨[(Pt 6782 0)]⟩ 80 (0, 0))),
 (36353, (.cells ⟨[(St [120]), ff, (I 2)]⟩ 69 (0, 0)))]⟩
set_option maxRecDepth 1000000 in
theorem pc13_ok : pc13.good E2 1000000 = true := by kernel_rfl
theorem pc13_call {args : List Value} {s : AS} (h : pc13.is args s = true) : CallOk E2 pc13.f args s pc13.v (pc13.to s) := piece_ok (E := E2) E2_ok pc13_ok h
end
end Go.Proofs.YtiiifhddpdhagaaGreatDoor
namespace Go.Proofs.YtiiifhddpdhagaaGreatDoor
open Go
noncomputable section
def pc14 : CE := ⟨10, [(Pt 6823 0)], 36354, [(0, gFirst.2.obj),
 (1, gHalves.2.obj),
 (3, gK.2.obj),
 (4, gBr),
 (101, (.chan 432 ⟨([(Ag qr4), (Ag qr13), (Ag qr0), (Ag qr5), (Ag qr6), (Ag qr7), (Ag qr20), (Ag qr21), (Ag qr22), (Ag qr23), (Ag qr31), (Ag qr32), (Ag qr33), (Ag qr34), (Ag qr35), (Ag qr36), (Ag qr37), (Ag qr44), (Ag qr45), (Ag qr46), (Ag qr47), (Ag qr48), (Ag qr49), (Ag qr55), (Ag qr56), (Ag qr57), (Ag qr58), (Ag qr59), (Ag qr60), (Ag qr66), (Ag qr67), (Ag qr68), (Ag qr69)] ++ (List.replicate 65 (Ag qr0)) ++ [(Ag qr12)] ++ (List.replicate 64 (Ag qr0)) ++ [(Ag qr61)] ++ (List.replicate 18 (Ag qr0)))⟩ false 512 0 false)),
 (102, (.cells ⟨[(.int .i64 (.negSucc 0)), e0, (Sx 101 0 182 182), s0, ff, (U 117)]⟩ 208 (0, 0))),
 (6007, (.cells ⟨[(Pt 102 0), (U 3), (U 4), (I 96), (St [0, 64, 0, 4]), (I 1), (U 31), (I 27), ff]⟩ 387 (0, 0))),
 (6037, (.chan 0 ⟨[(Tu [(I 2), (Ag qr25)]), (Tu [(I 3), (Ag qr62)]), (Tu [(I 4), (Ag qr63)]), (Tu [(I 5), (Ag qr64)]), (Tu [(I 0), (Ag qr70)]), (Tu [(I 6), (Ag qr71)]), (Tu [(I 1), (Ag qr72)])]⟩ true 0 0 false)),
 (6038, (.chan 0 ⟨[(Tu [(I 2), tt]), (Tu [(I 3), tt]), (Tu [(I 4), tt]), (Tu [(I 5), tt]), (Tu [(I 0), tt]), (Tu [(I 6), tt]), (Tu [(I 1), tt])]⟩ true 0 0 false)),
 (6039, (.map ⟨[]⟩ 22)),
 (6040, (.cells ⟨[(Pt 6007 0), (Pt 102 0), (I 64), (St [0, 4]), (Mp 6037), (Mp 6038), (Mp 6039), ff]⟩ 242 (0, 0))),
 (6436, (.cells ⟨[(Pt 6040 0), (Pt 6040 0), (I 32), (I 4), (I 5), (Pt 6040 0), (I 32), (I 6), (I 4), (Pt 6040 0), (I 4), (I 4), (I 0), (Pt 6040 0), (I 17), (I 33), (I 6), (Pt 6040 0), (I 1), (I 1), (I 0), (Pt 6040 0), (I 32), (I 5), (I 0), (Pt 6040 0), (I 33), (I 4), (I 0), (Pt 6040 0), (I 2), (I 5), (I 3), ff, (I 0)]⟩ 147 (0, 0))),
 (6782, (.cells ⟨[(Pt 6436 0), (I 4)]⟩ 139 (0, 0))),
 (6823, (.cells ⟨[(Pt 6782 0)]⟩ 80 (0, 0)))], (Tu [(Ag [(I 4836), (I 13)]), (I 0)]), 37913, [(0, gFirst.2.obj),
 (1, gHalves.2.obj),
 (3, gK.2.obj),
 (4, gBr),
 (101, (.chan 432 ⟨([(Ag qr4), (Ag qr13), (Ag qr0), (Ag qr5), (Ag qr6), (Ag qr7), (Ag qr20), (Ag qr21), (Ag qr22), (Ag qr23), (Ag qr31), (Ag qr32), (Ag qr33), (Ag qr34), (Ag qr35), (Ag qr36), (Ag qr37), (Ag qr44), (Ag qr45), (Ag qr46), (Ag qr47), (Ag qr48), (Ag qr49), (Ag qr55), (Ag qr56), (Ag qr57), (Ag qr58), (Ag qr59), (Ag qr60), (Ag qr66), (Ag qr67), (Ag qr68), (Ag qr69)] ++ (List.replicate 65 (Ag qr0)) ++ [(Ag qr12)] ++ (List.replicate 64 (Ag qr0)) ++ [(Ag qr61)] ++ (List.replicate 18 (Ag qr0)))⟩ false 512 0 false)),
 (102, (.cells ⟨[(.int .i64 (.negSucc 0)), e0, (Sx 101 0 182 182), s0, ff, (U 117)]⟩ 208 (0, 0))),
 (6007, (.cells ⟨[(Pt 102 0), (U 3), (U 4), (I 96), (St [0, 64, 0, 4]), (I 1), (U 31), (I 27), ff]⟩ 387 (0, 0))),
 (6037, (.chan 0 ⟨[(Tu [(I 2), (Ag qr25)]), (Tu [(I 3), (Ag qr62)]), (Tu [(I 4), (Ag qr63)]), (Tu [(I 5), (Ag qr64)]), (Tu [(I 0), (Ag qr70)]), (Tu [(I 6), (Ag qr71)]), (Tu [(I 1), (Ag qr72)])]⟩ true 0 0 false)),
 (6038, (.chan 0 ⟨[(Tu [(I 2), tt]), (Tu [(I 3), tt]), (Tu [(I 4), tt]), (Tu [(I 5), tt]), (Tu [(I 0), tt]), (Tu [(I 6), tt]), (Tu [(I 1), tt])]⟩ true 0 0 false)),
 (6039, (.map ⟨[]⟩ 22)),
 (6040, (.cells ⟨[(Pt 6007 0), (Pt 102 0), (I 64), (St [0, 4]), (Mp 6037), (Mp 6038), (Mp 6039), ff]⟩ 242 (0, 0))),
 (6436, (.cells ⟨[(Pt 6040 0), (Pt 6040 0), (I 32), (I 4), (I 5), (Pt 6040 0), (I 32), (I 6), (I 4), (Pt 6040 0), (I 4), (I 4), (I 0), (Pt 6040 0), (I 17), (I 33), (I 6), (Pt 6040 0), (I 1), (I 1), (I 0), (Pt 6040 0), (I 32), (I 5), (I 0), (Pt 6040 0), (I 33), (I 4), (I 0), (Pt 6040 0), (I 2), (I 5), (I 3), ff, (I 0)]⟩ 147 (0, 0))),
 (6782, (.cells ⟨[(Pt 6436 0), (I 4)]⟩ 139 (0, 0))),
 (6823, (.cells ⟨[(Pt 6782 0)]⟩ 80 (0, 0)))]⟩
set_option maxRecDepth 1000000 in
theorem pc14_ok : pc14.good E2 1000000 = true := by kernel_rfl
theorem pc14_call {args : List Value} {s : AS} (h : pc14.is args s = true) : CallOk E2 pc14.f args s pc14.v (pc14.to s) := piece_ok (E := E2) E2_ok pc14_ok h
end
end Go.Proofs.YtiiifhddpdhagaaGreatDoor
namespace Go.Proofs.YtiiifhddpdhagaaGreatDoor
open Go
noncomputable section
def pc15 : CE := ⟨19, [(Pt 6823 0)], 37914, [(0, gFirst.2.obj),
 (1, gHalves.2.obj),
 (3, gK.2.obj),
 (4, gBr),
 (101, (.chan 432 ⟨([(Ag qr4), (Ag qr13), (Ag qr0), (Ag qr5), (Ag qr6), (Ag qr7), (Ag qr20), (Ag qr21), (Ag qr22), (Ag qr23), (Ag qr31), (Ag qr32), (Ag qr33), (Ag qr34), (Ag qr35), (Ag qr36), (Ag qr37), (Ag qr44), (Ag qr45), (Ag qr46), (Ag qr47), (Ag qr48), (Ag qr49), (Ag qr55), (Ag qr56), (Ag qr57), (Ag qr58), (Ag qr59), (Ag qr60), (Ag qr66), (Ag qr67), (Ag qr68), (Ag qr69)] ++ (List.replicate 65 (Ag qr0)) ++ [(Ag qr12)] ++ (List.replicate 64 (Ag qr0)) ++ [(Ag qr61)] ++ (List.replicate 18 (Ag qr0)))⟩ false 512 0 false)),
 (102, (.cells ⟨[(.int .i64 (.negSucc 0)), e0, (Sx 101 0 182 182), s0, ff, (U 117)]⟩ 208 (0, 0))),
 (6007, (.cells ⟨[(Pt 102 0), (U 3), (U 4), (I 96), (St [0, 64, 0, 4]), (I 1), (U 31), (I 27), ff]⟩ 387 (0, 0))),
 (6037, (.chan 0 ⟨[(Tu [(I 2), (Ag qr25)]), (Tu [(I 3), (Ag qr62)]), (Tu [(I 4), (Ag qr63)]), (Tu [(I 5), (Ag qr64)]), (Tu [(I 0), (Ag qr70)]), (Tu [(I 6), (Ag qr71)]), (Tu [(I 1), (Ag qr72)])]⟩ true 0 0 false)),
 (6038, (.chan 0 ⟨[(Tu [(I 2), tt]), (Tu [(I 3), tt]), (Tu [(I 4), tt]), (Tu [(I 5), tt]), (Tu [(I 0), tt]), (Tu [(I 6), tt]), (Tu [(I 1), tt])]⟩ true 0 0 false)),
 (6039, (.map ⟨[]⟩ 22)),
 (6040, (.cells ⟨[(Pt 6007 0), (Pt 102 0), (I 64), (St [0, 4]), (Mp 6037), (Mp 6038), (Mp 6039), ff]⟩ 242 (0, 0))),
 (6436, (.cells ⟨[(Pt 6040 0), (Pt 6040 0), (I 32), (I 4), (I 5), (Pt 6040 0), (I 32), (I 6), (I 4), (Pt 6040 0), (I 4), (I 4), (I 0), (Pt 6040 0), (I 17), (I 33), (I 6), (Pt 6040 0), (I 1), (I 1), (I 0), (Pt 6040 0), (I 32), (I 5), (I 0), (Pt 6040 0), (I 33), (I 4), (I 0), (Pt 6040 0), (I 2), (I 5), (I 3), ff, (I 0)]⟩ 147 (0, 0))),
 (6782, (.cells ⟨[(Pt 6436 0), (I 4)]⟩ 139 (0, 0))),
 (6823, (.cells ⟨[(Pt 6782 0)]⟩ 80 (0, 0)))], (Tu [(St [1, 115, 2, 100, 3, 4, 2, 100, 47, 120, 3, 97, 98]), tt]), 41298, [(0, gFirst.2.obj),
 (1, gHalves.2.obj),
 (3, gK.2.obj),
 (4, gBr),
 (101, (.chan 432 ⟨([(Ag qr4), (Ag qr13), (Ag qr0), (Ag qr5), (Ag qr6), (Ag qr7), (Ag qr20), (Ag qr21), (Ag qr22), (Ag qr23), (Ag qr31), (Ag qr32), (Ag qr33), (Ag qr34), (Ag qr35), (Ag qr36), (Ag qr37), (Ag qr44), (Ag qr45), (Ag qr46), (Ag qr47), (Ag qr48), (Ag qr49), (Ag qr55), (Ag qr56), (Ag qr57), (Ag qr58), (Ag qr59), (Ag qr60), (Ag qr66), (Ag qr67), (Ag qr68), (Ag qr69)] ++ (List.replicate 65 (Ag qr0)) ++ [(Ag qr12)] ++ (List.replicate 64 (Ag qr0)) ++ [(Ag qr61)] ++ (List.replicate 18 (Ag qr0)))⟩ false 512 0 false)),
 (102, (.cells ⟨[(.int .i64 (.negSucc 0)), e0, (Sx 101 0 182 182), s0, ff, (U 117)]⟩ 208 (0, 0))),
 (6007, (.cells ⟨[(Pt 102 0), (U 3), (U 4), (I 96), (St [0, 64, 0, 4]), (I 1), (U 31), (I 27), ff]⟩ 387 (0, 0))),
 (6037, (.chan 0 ⟨[(Tu [(I 2), (Ag qr25)]), (Tu [(I 3), (Ag qr62)]), (Tu [(I 4), (Ag qr63)]), (Tu [(I 5), (Ag qr64)]), (Tu [(I 0), (Ag qr70)]), (Tu [(I 6), (Ag qr71)]), (Tu [(I 1), (Ag qr72)])]⟩ true 0 0 false)),
 (6038, (.chan 0 ⟨[(Tu [(I 2), tt]), (Tu [(I 3), tt]), (Tu [(I 4), tt]), (Tu [(I 5), tt]), (Tu [(I 0), tt]), (Tu [(I 6), tt]), (Tu [(I 1), tt])]⟩ true 0 0 false)),
 (6039, (.map ⟨[]⟩ 22)),
 (6040, (.cells ⟨[(Pt 6007 0), (Pt 102 0), (I 64), (St [0, 4]), (Mp 6037), (Mp 6038), (Mp 6039), ff]⟩ 242 (0, 0))),
 (6436, (.cells ⟨[(Pt 6040 0), (Pt 6040 0), (I 32), (I 4), (I 5), (Pt 6040 0), (I 32), (I 6), (I 4), (Pt 6040 0), (I 4), (I 4), (I 0), (Pt 6040 0), (I 17), (I 33), (I 6), (Pt 6040 0), (I 1), (I 1), (I 0), (Pt 6040 0), (I 32), (I 5), (I 0), (Pt 6040 0), (I 33), (I 4), (I 0), (Pt 6040 0), (I 2), (I 5), (I 3), ff, (I 0)]⟩ 147 (0, 0))),
 (6782, (.cells ⟨[(Pt 6436 0), (I 4)]⟩ 139 (0, 0))),
 (6823, (.cells ⟨[(Pt 6782 0)]⟩ 80 (0, 0)))]⟩
set_option maxRecDepth 1000000 in
theorem pc15_ok : pc15.good E2 1000000 = true := by kernel_rfl
theorem pc15_call {args : List Value} {s : AS} (h : pc15.is args s = true) : CallOk E2 pc15.f args s pc15.v (pc15.to s) := piece_ok (E := E2) E2_ok pc15_ok h
end
end Go.Proofs.YtiiifhddpdhagaaGreatDoor
