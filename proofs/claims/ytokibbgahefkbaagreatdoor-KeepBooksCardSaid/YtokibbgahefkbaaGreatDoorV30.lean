/- A piece of the run: (*armarium/forest.Forest).Do 20095 23064. A piece of the run: (*armarium/vault.Vault).Dir 25683 26875. A piece of the run: (*armarium/vault.Vault).Read 26875 28809. The run of armarium/armariumlaw41.wakes: it answers; the tables stay. -/
import Derived.Test.YtokibbgahefkbaaGreatDoorV22
import Derived.Test.YtokibbgahefkbaaGreatDoorV24
import Derived.Test.YtokibbgahefkbaaGreatDoorV26
import Derived.Test.YtokibbgahefkbaaGreatDoorV27
import Derived.Test.YtokibbgahefkbaaGreatDoorV28
import Derived.Test.YtokibbgahefkbaaGreatDoorV29
set_option linter.all false
namespace Go.Proofs.YtokibbgahefkbaaGreatDoor
open Go
noncomputable section
def pc9:CE:=⟨110, [(Pt 6768 0),(Fn 160 [] [(Pt 7827 0),(Pt 7830 0),(Pt 7829 0),(Pt 7828 0)])],20095, [(2,gFirst.2.obj),
 (3,gBr),
 (4,gK.2.obj),
 (5,gHalves.2.obj),
 (433,(.chan 369 ⟨([(Ag qr4),(Ag qr13),(Ag qr0),(Ag qr5),(Ag qr6),(Ag qr7),(Ag qr18),(Ag qr19),(Ag qr20),(Ag qr21),(Ag qr29),(Ag qr30),(Ag qr31),(Ag qr32),(Ag qr33),(Ag qr34),(Ag qr35),(Ag qr42),(Ag qr43),(Ag qr44),(Ag qr45),(Ag qr46),(Ag qr47)] ++ (List.replicate 75 (Ag qr0))++ [(Ag qr12)] ++ (List.replicate 64 (Ag qr0))++ [(Ag qr48)] ++ (List.replicate 18 (Ag qr0)))⟩ false 512 0 false)),
 (434,(.cells ⟨[(.int .i64 (.negSucc 0)),e0,(Sx 433 0 182 182),s0,ff,(U 103)]⟩ 147 (0,0))),
 (6339,(.cells ⟨[(Pt 434 0),(U 3),(U 4),(I 96),(St [0,64,0,4]),(I 1),(U 21),(I 17),ff]⟩ 320 (0,0))),
 (6369,(.chan 0 ⟨[(Tu [(I 2),(Ag qr23)]),(Tu [(I 1),(Ag qr41)]),(Tu [(I 0),(Ag qr37)]),(Tu [(I 3),(Ag qr49)]),(Tu [(I 4),(Ag qr50)]),(Tu [(I 5),(Ag qr51)]),(Tu [(I 6),(Ag qr52)])]⟩ true 0 0 false)),
 (6370,(.chan 0 ⟨[(Tu [(I 2),tt]),(Tu [(I 1),tt]),(Tu [(I 0),tt]),(Tu [(I 3),tt]),(Tu [(I 4),tt]),(Tu [(I 5),tt]),(Tu [(I 6),tt])]⟩ true 0 0 false)),
 (6371,(.map ⟨[]⟩ 14)),
 (6372,(.cells ⟨[(Pt 6339 0),(Pt 434 0),(I 64),(St [0,4]),(Mp 6369),(Mp 6370),(Mp 6371),ff]⟩ 248 (0,0))),
 (6768,(.cells ⟨[(Pt 6372 0),(Pt 6372 0),(I 32),(I 4),(I 5),(Pt 6372 0),(I 32),(I 6),(I 4),(Pt 6372 0),(I 4),(I 4),(I 0),(Pt 6372 0),(I 17),(I 33),(I 0),(Pt 6372 0),(I 1),(I 1),(I 2),(Pt 6372 0),(I 32),(I 5),(I 6),(Pt 6372 0),(I 33),(I 4),(I 0),(Pt 6372 0),(I 2),(I 5),(I 3),ff,(I 0)]⟩ 243 (0,0))),
 (7114,(.cells ⟨[(Pt 6768 0),(I 4)]⟩ 188 (0,0))),
 (7827,(.cells ⟨[(Pt 7114 0)]⟩ 112 (0,0))),
 (7828,(.cells ⟨[(St [126,110,101,120,116])]⟩ 9 (0,0))),
 (7829,(.cells ⟨[(Pt 6768 0)]⟩ 182 (0,0))),
 (7830,(.cells ⟨qr17⟩ 156 (0,0)))],(I 0),23064, [(2,gFirst.2.obj),
 (3,gBr),
 (4,gK.2.obj),
 (5,gHalves.2.obj),
 (433,(.chan 369 ⟨([(Ag qr4),(Ag qr13),(Ag qr0),(Ag qr5),(Ag qr6),(Ag qr7),(Ag qr18),(Ag qr19),(Ag qr20),(Ag qr21),(Ag qr29),(Ag qr30),(Ag qr31),(Ag qr32),(Ag qr33),(Ag qr34),(Ag qr35),(Ag qr42),(Ag qr43),(Ag qr44),(Ag qr45),(Ag qr46),(Ag qr47),(Ag qr53),(Ag qr54),(Ag qr55),(Ag qr56)] ++ (List.replicate 71 (Ag qr0))++ [(Ag qr12)] ++ (List.replicate 64 (Ag qr0))++ [(Ag qr48)] ++ (List.replicate 18 (Ag qr0)))⟩ false 512 0 false)),
 (434,(.cells ⟨[(.int .i64 (.negSucc 0)),e0,(Sx 433 0 182 182),s0,ff,(U 108)]⟩ 147 (0,0))),
 (6339,(.cells ⟨[(Pt 434 0),(U 3),(U 4),(I 96),(St [0,64,0,4]),(I 1),(U 25),(I 21),ff]⟩ 320 (0,0))),
 (6369,(.chan 0 ⟨[(Tu [(I 2),(Ag qr23)]),(Tu [(I 3),(Ag qr49)]),(Tu [(I 4),(Ag qr50)]),(Tu [(I 5),(Ag qr51)]),(Tu [(I 0),(Ag qr57)]),(Tu [(I 6),(Ag qr58)]),(Tu [(I 1),(Ag qr59)])]⟩ true 0 0 false)),
 (6370,(.chan 0 ⟨[(Tu [(I 2),tt]),(Tu [(I 3),tt]),(Tu [(I 4),tt]),(Tu [(I 5),tt]),(Tu [(I 0),tt]),(Tu [(I 6),tt]),(Tu [(I 1),tt])]⟩ true 0 0 false)),
 (6371,(.map ⟨[]⟩ 17)),
 (6372,(.cells ⟨[(Pt 6339 0),(Pt 434 0),(I 64),(St [0,4]),(Mp 6369),(Mp 6370),(Mp 6371),ff]⟩ 248 (0,0))),
 (6768,(.cells ⟨[(Pt 6372 0),(Pt 6372 0),(I 32),(I 4),(I 5),(Pt 6372 0),(I 32),(I 6),(I 4),(Pt 6372 0),(I 4),(I 4),(I 0),(Pt 6372 0),(I 17),(I 33),(I 6),(Pt 6372 0),(I 1),(I 1),(I 0),(Pt 6372 0),(I 32),(I 5),(I 0),(Pt 6372 0),(I 33),(I 4),(I 0),(Pt 6372 0),(I 2),(I 5),(I 3),ff,(I 0)]⟩ 243 (0,0))),
 (7114,(.cells ⟨[(Pt 6768 0),(I 4)]⟩ 188 (0,0))),
 (7827,(.cells ⟨[(Pt 7114 0)]⟩ 112 (0,0))),
 (7828,(.cells ⟨[(St [126,110,101,120,116])]⟩ 9 (0,0))),
 (7829,(.cells ⟨[(Pt 6768 0)]⟩ 182 (0,0))),
 (7830,(.cells ⟨qr17⟩ 156 (0,0)))]⟩
set_option maxRecDepth 1000000 in
theorem pc9_ok:pc9.good E2 1000000=true:=by kernel_rfl
theorem pc9_call {args:List Value} {s:AS} (h:pc9.is args s=true):CallOk E2 pc9.f args s pc9.v (pc9.to s):=piece_ok (E:=E2) E2_ok pc9_ok h
end
end Go.Proofs.YtokibbgahefkbaaGreatDoor
namespace Go.Proofs.YtokibbgahefkbaaGreatDoor
open Go
noncomputable section
def pc10:CE:=⟨52, [(Pt 7155 0),(St [126,107,101,112,116]),e0],25683, [(2,gFirst.2.obj),
 (3,gBr),
 (4,gK.2.obj),
 (5,gHalves.2.obj),
 (433,(.chan 369 ⟨([(Ag qr4),(Ag qr13),(Ag qr0),(Ag qr5),(Ag qr6),(Ag qr7),(Ag qr18),(Ag qr19),(Ag qr20),(Ag qr21),(Ag qr29),(Ag qr30),(Ag qr31),(Ag qr32),(Ag qr33),(Ag qr34),(Ag qr35),(Ag qr42),(Ag qr43),(Ag qr44),(Ag qr45),(Ag qr46),(Ag qr47),(Ag qr53),(Ag qr54),(Ag qr55),(Ag qr56),(Ag qr61),(Ag qr62),(Ag qr63),(Ag qr64)] ++ (List.replicate 67 (Ag qr0))++ [(Ag qr12)] ++ (List.replicate 64 (Ag qr0))++ [(Ag qr48)] ++ (List.replicate 18 (Ag qr0)))⟩ false 512 0 false)),
 (434,(.cells ⟨[(.int .i64 (.negSucc 0)),e0,(Sx 433 0 182 182),s0,ff,(U 113)]⟩ 147 (0,0))),
 (6339,(.cells ⟨[(Pt 434 0),(U 3),(U 4),(I 96),(St [0,64,0,4]),(I 1),(U 29),(I 25),ff]⟩ 320 (0,0))),
 (6369,(.chan 0 ⟨[(Tu [(I 3),(Ag qr49)]),(Tu [(I 4),(Ag qr50)]),(Tu [(I 5),(Ag qr51)]),(Tu [(I 6),(Ag qr58)]),(Tu [(I 0),(Ag qr27)]),(Tu [(I 2),(Ag qr65)]),(Tu [(I 1),(Ag qr66)])]⟩ true 0 0 false)),
 (6370,(.chan 0 ⟨[(Tu [(I 3),tt]),(Tu [(I 4),tt]),(Tu [(I 5),tt]),(Tu [(I 6),tt]),(Tu [(I 0),tt]),(Tu [(I 2),tt]),(Tu [(I 1),tt])]⟩ true 0 0 false)),
 (6371,(.map ⟨[]⟩ 20)),
 (6372,(.cells ⟨[(Pt 6339 0),(Pt 434 0),(I 64),(St [0,4]),(Mp 6369),(Mp 6370),(Mp 6371),ff]⟩ 248 (0,0))),
 (6768,(.cells ⟨[(Pt 6372 0),(Pt 6372 0),(I 32),(I 4),(I 5),(Pt 6372 0),(I 32),(I 6),(I 4),(Pt 6372 0),(I 4),(I 4),(I 0),(Pt 6372 0),(I 17),(I 33),(I 2),(Pt 6372 0),(I 1),(I 1),(I 0),(Pt 6372 0),(I 32),(I 5),(I 0),(Pt 6372 0),(I 33),(I 4),(I 0),(Pt 6372 0),(I 2),(I 5),(I 3),ff,(I 0)]⟩ 243 (0,0))),
 (7114,(.cells ⟨[(Pt 6768 0),(I 4)]⟩ 188 (0,0))),
 (7155,(.cells ⟨[(Pt 7114 0)]⟩ 153 (0,0)))],(Tu [(Sg 26874 0 0 1 1),(I 0)]),26875, [(2,gFirst.2.obj),
 (3,gBr),
 (4,gK.2.obj),
 (5,gHalves.2.obj),
 (433,(.chan 369 ⟨([(Ag qr4),(Ag qr13),(Ag qr0),(Ag qr5),(Ag qr6),(Ag qr7),(Ag qr18),(Ag qr19),(Ag qr20),(Ag qr21),(Ag qr29),(Ag qr30),(Ag qr31),(Ag qr32),(Ag qr33),(Ag qr34),(Ag qr35),(Ag qr42),(Ag qr43),(Ag qr44),(Ag qr45),(Ag qr46),(Ag qr47),(Ag qr53),(Ag qr54),(Ag qr55),(Ag qr56),(Ag qr61),(Ag qr62),(Ag qr63),(Ag qr64)] ++ (List.replicate 67 (Ag qr0))++ [(Ag qr12)] ++ (List.replicate 64 (Ag qr0))++ [(Ag qr48)] ++ (List.replicate 18 (Ag qr0)))⟩ false 512 0 false)),
 (434,(.cells ⟨[(.int .i64 (.negSucc 0)),e0,(Sx 433 0 182 182),s0,ff,(U 113)]⟩ 147 (0,0))),
 (6339,(.cells ⟨[(Pt 434 0),(U 3),(U 4),(I 96),(St [0,64,0,4]),(I 1),(U 29),(I 25),ff]⟩ 320 (0,0))),
 (6369,(.chan 0 ⟨[(Tu [(I 3),(Ag qr49)]),(Tu [(I 4),(Ag qr50)]),(Tu [(I 5),(Ag qr51)]),(Tu [(I 6),(Ag qr58)]),(Tu [(I 0),(Ag qr27)]),(Tu [(I 2),(Ag qr65)]),(Tu [(I 1),(Ag qr66)])]⟩ true 0 0 false)),
 (6370,(.chan 0 ⟨[(Tu [(I 3),tt]),(Tu [(I 4),tt]),(Tu [(I 5),tt]),(Tu [(I 6),tt]),(Tu [(I 0),tt]),(Tu [(I 2),tt]),(Tu [(I 1),tt])]⟩ true 0 0 false)),
 (6371,(.map ⟨[]⟩ 20)),
 (6372,(.cells ⟨[(Pt 6339 0),(Pt 434 0),(I 64),(St [0,4]),(Mp 6369),(Mp 6370),(Mp 6371),ff]⟩ 248 (0,0))),
 (6768,(.cells ⟨[(Pt 6372 0),(Pt 6372 0),(I 32),(I 4),(I 5),(Pt 6372 0),(I 32),(I 6),(I 4),(Pt 6372 0),(I 4),(I 4),(I 0),(Pt 6372 0),(I 17),(I 33),(I 2),(Pt 6372 0),(I 1),(I 1),(I 0),(Pt 6372 0),(I 32),(I 5),(I 0),(Pt 6372 0),(I 33),(I 4),(I 0),(Pt 6372 0),(I 2),(I 5),(I 3),ff,(I 0)]⟩ 243 (0,0))),
 (7114,(.cells ⟨[(Pt 6768 0),(I 4)]⟩ 188 (0,0))),
 (7155,(.cells ⟨[(Pt 7114 0)]⟩ 153 (0,0))),
 (26874,(.cells ⟨[(St [98,111,111,107]),ff,(I 10)]⟩ 223 (0,0)))]⟩
set_option maxRecDepth 1000000 in
theorem pc10_ok:pc10.good E2 1000000=true:=by kernel_rfl
theorem pc10_call {args:List Value} {s:AS} (h:pc10.is args s=true):CallOk E2 pc10.f args s pc10.v (pc10.to s):=piece_ok (E:=E2) E2_ok pc10_ok h
end
end Go.Proofs.YtokibbgahefkbaaGreatDoor
namespace Go.Proofs.YtokibbgahefkbaaGreatDoor
open Go
noncomputable section
def pc11:CE:=⟨53, [(Pt 7155 0),(St [126,107,101,112,116]),(St [98,111,111,107])],26875, [(2,gFirst.2.obj),
 (3,gBr),
 (4,gK.2.obj),
 (5,gHalves.2.obj),
 (433,(.chan 369 ⟨([(Ag qr4),(Ag qr13),(Ag qr0),(Ag qr5),(Ag qr6),(Ag qr7),(Ag qr18),(Ag qr19),(Ag qr20),(Ag qr21),(Ag qr29),(Ag qr30),(Ag qr31),(Ag qr32),(Ag qr33),(Ag qr34),(Ag qr35),(Ag qr42),(Ag qr43),(Ag qr44),(Ag qr45),(Ag qr46),(Ag qr47),(Ag qr53),(Ag qr54),(Ag qr55),(Ag qr56),(Ag qr61),(Ag qr62),(Ag qr63),(Ag qr64)] ++ (List.replicate 67 (Ag qr0))++ [(Ag qr12)] ++ (List.replicate 64 (Ag qr0))++ [(Ag qr48)] ++ (List.replicate 18 (Ag qr0)))⟩ false 512 0 false)),
 (434,(.cells ⟨[(.int .i64 (.negSucc 0)),e0,(Sx 433 0 182 182),s0,ff,(U 113)]⟩ 147 (0,0))),
 (6339,(.cells ⟨[(Pt 434 0),(U 3),(U 4),(I 96),(St [0,64,0,4]),(I 1),(U 29),(I 25),ff]⟩ 320 (0,0))),
 (6369,(.chan 0 ⟨[(Tu [(I 3),(Ag qr49)]),(Tu [(I 4),(Ag qr50)]),(Tu [(I 5),(Ag qr51)]),(Tu [(I 6),(Ag qr58)]),(Tu [(I 0),(Ag qr27)]),(Tu [(I 2),(Ag qr65)]),(Tu [(I 1),(Ag qr66)])]⟩ true 0 0 false)),
 (6370,(.chan 0 ⟨[(Tu [(I 3),tt]),(Tu [(I 4),tt]),(Tu [(I 5),tt]),(Tu [(I 6),tt]),(Tu [(I 0),tt]),(Tu [(I 2),tt]),(Tu [(I 1),tt])]⟩ true 0 0 false)),
 (6371,(.map ⟨[]⟩ 20)),
 (6372,(.cells ⟨[(Pt 6339 0),(Pt 434 0),(I 64),(St [0,4]),(Mp 6369),(Mp 6370),(Mp 6371),ff]⟩ 248 (0,0))),
 (6768,(.cells ⟨[(Pt 6372 0),(Pt 6372 0),(I 32),(I 4),(I 5),(Pt 6372 0),(I 32),(I 6),(I 4),(Pt 6372 0),(I 4),(I 4),(I 0),(Pt 6372 0),(I 17),(I 33),(I 2),(Pt 6372 0),(I 1),(I 1),(I 0),(Pt 6372 0),(I 32),(I 5),(I 0),(Pt 6372 0),(I 33),(I 4),(I 0),(Pt 6372 0),(I 2),(I 5),(I 3),ff,(I 0)]⟩ 243 (0,0))),
 (7114,(.cells ⟨[(Pt 6768 0),(I 4)]⟩ 188 (0,0))),
 (7155,(.cells ⟨[(Pt 7114 0)]⟩ 153 (0,0)))],(Tu [(St [0,2,1,106,1,50,1,107,1,49]),(I 0)]),28809, [(2,gFirst.2.obj),
 (3,gBr),
 (4,gK.2.obj),
 (5,gHalves.2.obj),
 (433,(.chan 369 ⟨([(Ag qr4),(Ag qr13),(Ag qr0),(Ag qr5),(Ag qr6),(Ag qr7),(Ag qr18),(Ag qr19),(Ag qr20),(Ag qr21),(Ag qr29),(Ag qr30),(Ag qr31),(Ag qr32),(Ag qr33),(Ag qr34),(Ag qr35),(Ag qr42),(Ag qr43),(Ag qr44),(Ag qr45),(Ag qr46),(Ag qr47),(Ag qr53),(Ag qr54),(Ag qr55),(Ag qr56),(Ag qr61),(Ag qr62),(Ag qr63),(Ag qr64)] ++ (List.replicate 67 (Ag qr0))++ [(Ag qr12)] ++ (List.replicate 64 (Ag qr0))++ [(Ag qr48)] ++ (List.replicate 18 (Ag qr0)))⟩ false 512 0 false)),
 (434,(.cells ⟨[(.int .i64 (.negSucc 0)),e0,(Sx 433 0 182 182),s0,ff,(U 113)]⟩ 147 (0,0))),
 (6339,(.cells ⟨[(Pt 434 0),(U 3),(U 4),(I 96),(St [0,64,0,4]),(I 1),(U 29),(I 25),ff]⟩ 320 (0,0))),
 (6369,(.chan 0 ⟨[(Tu [(I 3),(Ag qr49)]),(Tu [(I 4),(Ag qr50)]),(Tu [(I 5),(Ag qr51)]),(Tu [(I 6),(Ag qr58)]),(Tu [(I 0),(Ag qr27)]),(Tu [(I 2),(Ag qr65)]),(Tu [(I 1),(Ag qr66)])]⟩ true 0 0 false)),
 (6370,(.chan 0 ⟨[(Tu [(I 3),tt]),(Tu [(I 4),tt]),(Tu [(I 5),tt]),(Tu [(I 6),tt]),(Tu [(I 0),tt]),(Tu [(I 2),tt]),(Tu [(I 1),tt])]⟩ true 0 0 false)),
 (6371,(.map ⟨[]⟩ 20)),
 (6372,(.cells ⟨[(Pt 6339 0),(Pt 434 0),(I 64),(St [0,4]),(Mp 6369),(Mp 6370),(Mp 6371),ff]⟩ 248 (0,0))),
 (6768,(.cells ⟨[(Pt 6372 0),(Pt 6372 0),(I 32),(I 4),(I 5),(Pt 6372 0),(I 32),(I 6),(I 4),(Pt 6372 0),(I 4),(I 4),(I 0),(Pt 6372 0),(I 17),(I 33),(I 2),(Pt 6372 0),(I 1),(I 1),(I 0),(Pt 6372 0),(I 32),(I 5),(I 0),(Pt 6372 0),(I 33),(I 4),(I 0),(Pt 6372 0),(I 2),(I 5),(I 3),ff,(I 0)]⟩ 243 (0,0))),
 (7114,(.cells ⟨[(Pt 6768 0),(I 4)]⟩ 188 (0,0))),
 (7155,(.cells ⟨[(Pt 7114 0)]⟩ 153 (0,0)))]⟩
set_option maxRecDepth 1000000 in
theorem pc11_ok:pc11.good E2 1000000=true:=by kernel_rfl
theorem pc11_call {args:List Value} {s:AS} (h:pc11.is args s=true):CallOk E2 pc11.f args s pc11.v (pc11.to s):=piece_ok (E:=E2) E2_ok pc11_ok h
end
end Go.Proofs.YtokibbgahefkbaaGreatDoor
namespace Go.Proofs.YtokibbgahefkbaaGreatDoor
open Go Go.RowKit
noncomputable section
def EvWakes:Env:=E2.more (pieceOf [pc3,pc5,pc6,pc7,pc8,pc9,pc10,pc11])
theorem EvWakes_ok:EvWakes.Ok:=pieces_more fun c hc args s h=>by
 simp only [List.mem_cons,List.not_mem_nil,or_false] at hc
 rcases hc with rfl |rfl |rfl |rfl |rfl |rfl |rfl |rfl
 ·exact pc3_call h
 ·exact pc5_call h
 ·exact pc6_call h
 ·exact pc7_call h
 ·exact pc8_call h
 ·exact pc9_call h
 ·exact pc10_call h
 ·exact pc11_call h
end
end Go.Proofs.YtokibbgahefkbaaGreatDoor
