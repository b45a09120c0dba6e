/- A piece of the run: (*armarium/forest.Forest).Do 7840 9327. -/
import Derived.Test.YtokibbgahefkbaaGreatDoorV22
set_option linter.all false
namespace Go.Proofs.YtokibbgahefkbaaGreatDoor
open Go
noncomputable section
def pc6:CE:=⟨110, [(Pt 6768 0),(Fn 156 [] [(Pt 7829 0)])],7840, [(2,gFirst.2.obj),
 (3,gBr),
 (4,gK.2.obj),
 (5,gHalves.2.obj),
 (433,(.chan 369 ⟨([(Ag qr4),(Ag qr13),(Ag qr0),(Ag qr5),(Ag qr6),(Ag qr7)] ++ (List.replicate 92 (Ag qr0))++ [(Ag qr12)] ++ (List.replicate 83 (Ag qr0)))⟩ false 512 0 false)),
 (434,(.cells ⟨[(.int .i64 (.negSucc 0)),e0,(Sx 433 0 182 182),s0,ff,(U 79)]⟩ 147 (0,0))),
 (6339,(.cells ⟨[(Pt 434 0),(U 3),(U 4),(I 96),(St [0,64,0,4]),(I 1),(U 4),(I 0),ff]⟩ 320 (0,0))),
 (6369,(.map ⟨[⟨(I 0),(Ag qr12),0⟩,⟨(I 1),(Ag qr0),1⟩]⟩ 2)),
 (6370,(.map ⟨[]⟩ 0)),
 (6371,(.map ⟨[]⟩ 0)),
 (6372,(.cells ⟨[(Pt 6339 0),(Pt 434 0),(I 64),(St [0,4]),(Mp 6369),(Mp 6370),(Mp 6371),ff]⟩ 248 (0,0))),
 (6768,(.cells ⟨[(Pt 6372 0),(Pt 6372 0),(I 32),(I 4),(I 0),(Pt 6372 0),(I 32),(I 6),(I 0),(Pt 6372 0),(I 4),(I 4),(I 0),(Pt 6372 0),(I 17),(I 33),(I 0),(Pt 6372 0),(I 1),(I 1),(I 0),(Pt 6372 0),(I 32),(I 5),(I 0),(Pt 6372 0),(I 33),(I 4),(I 0),(Pt 6372 0),(I 2),(I 5),(I 0),ff,(I 0)]⟩ 243 (0,0))),
 (7829,(.cells ⟨[(Pt 6768 0)]⟩ 182 (0,0)))],(I 0),9327, [(2,gFirst.2.obj),
 (3,gBr),
 (4,gK.2.obj),
 (5,gHalves.2.obj),
 (433,(.chan 369 ⟨([(Ag qr4),(Ag qr13),(Ag qr0),(Ag qr5),(Ag qr6),(Ag qr7),(Ag qr18),(Ag qr19),(Ag qr20),(Ag qr21)] ++ (List.replicate 88 (Ag qr0))++ [(Ag qr12)] ++ (List.replicate 83 (Ag qr0)))⟩ false 512 0 false)),
 (434,(.cells ⟨[(.int .i64 (.negSucc 0)),e0,(Sx 433 0 182 182),s0,ff,(U 84)]⟩ 147 (0,0))),
 (6339,(.cells ⟨[(Pt 434 0),(U 3),(U 4),(I 96),(St [0,64,0,4]),(I 1),(U 8),(I 4),ff]⟩ 320 (0,0))),
 (6369,(.chan 0 ⟨[(Tu [(I 0),(Ag qr22)]),(Tu [(I 2),(Ag qr23)]),(Tu [(I 1),(Ag qr24)])]⟩ true 0 0 false)),
 (6370,(.chan 0 ⟨[(Tu [(I 0),tt]),(Tu [(I 2),tt]),(Tu [(I 1),tt])]⟩ true 0 0 false)),
 (6371,(.map ⟨[]⟩ 3)),
 (6372,(.cells ⟨[(Pt 6339 0),(Pt 434 0),(I 64),(St [0,4]),(Mp 6369),(Mp 6370),(Mp 6371),ff]⟩ 248 (0,0))),
 (6768,(.cells ⟨[(Pt 6372 0),(Pt 6372 0),(I 32),(I 4),(I 0),(Pt 6372 0),(I 32),(I 6),(I 0),(Pt 6372 0),(I 4),(I 4),(I 0),(Pt 6372 0),(I 17),(I 33),(I 0),(Pt 6372 0),(I 1),(I 1),(I 2),(Pt 6372 0),(I 32),(I 5),(I 0),(Pt 6372 0),(I 33),(I 4),(I 0),(Pt 6372 0),(I 2),(I 5),(I 0),ff,(I 0)]⟩ 243 (0,0))),
 (7829,(.cells ⟨[(Pt 6768 0)]⟩ 182 (0,0)))]⟩
set_option maxRecDepth 1000000 in
theorem pc6_ok:pc6.good E2 1000000=true:=by kernel_rfl
theorem pc6_call {args:List Value} {s:AS} (h:pc6.is args s=true):CallOk E2 pc6.f args s pc6.v (pc6.to s):=piece_ok (E:=E2) E2_ok pc6_ok h
end
end Go.Proofs.YtokibbgahefkbaaGreatDoor
