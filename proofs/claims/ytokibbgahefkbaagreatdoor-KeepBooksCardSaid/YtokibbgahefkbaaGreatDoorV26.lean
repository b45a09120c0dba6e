/- A piece of the run: armarium/vault.Mount 5548 7156. -/
import Derived.Test.YtokibbgahefkbaaGreatDoorV22
import Derived.Test.YtokibbgahefkbaaGreatDoorV25
set_option linter.all false
namespace Go.Proofs.YtokibbgahefkbaaGreatDoor
open Go
noncomputable section
def pc5:CE:=⟨47, [(Pt 434 0)],5548, [(2,gFirst.2.obj),
 (3,gBr),
 (4,gK.2.obj),
 (5,gHalves.2.obj),
 (433,(.chan 369 ⟨([(Ag qr4),(Ag qr3),(Ag qr0),(Ag qr5),(Ag qr6),(Ag qr7)] ++ (List.replicate 92 (Ag qr0))++ [(Ag qr2)] ++ (List.replicate 83 (Ag qr0)))⟩ false 512 0 false)),
 (434,(.cells ⟨[(.int .i64 (.negSucc 0)),e0,(Sx 433 0 182 182),s0,ff,(U 74)]⟩ 147 (0,0)))],(Tu [(Pt 7155 0),(I 0)]),7156, [(2,gFirst.2.obj),
 (3,gBr),
 (4,gK.2.obj),
 (5,gHalves.2.obj),
 (433,(.chan 369 ⟨([(Ag qr4),(Ag qr13),(Ag qr0),(Ag qr5),(Ag qr6),(Ag qr7)] ++ (List.replicate 92 (Ag qr0))++ [(Ag qr12)] ++ (List.replicate 83 (Ag qr0)))⟩ false 512 0 false)),
 (434,(.cells ⟨[(.int .i64 (.negSucc 0)),e0,(Sx 433 0 182 182),s0,ff,(U 79)]⟩ 147 (0,0))),
 (6339,(.cells ⟨[(Pt 434 0),(U 3),(U 4),(I 96),(St [0,64,0,4]),(I 1),(U 4),(I 0),ff]⟩ 320 (0,0))),
 (6369,(.map ⟨[⟨(I 0),(Ag qr12),0⟩,⟨(I 1),(Ag qr0),1⟩]⟩ 2)),
 (6370,(.map ⟨[]⟩ 0)),
 (6371,(.map ⟨[]⟩ 0)),
 (6372,(.cells ⟨[(Pt 6339 0),(Pt 434 0),(I 64),(St [0,4]),(Mp 6369),(Mp 6370),(Mp 6371),ff]⟩ 248 (0,0))),
 (6768,(.cells ⟨[(Pt 6372 0),(Pt 6372 0),(I 32),(I 4),(I 0),(Pt 6372 0),(I 32),(I 6),(I 0),(Pt 6372 0),(I 4),(I 4),(I 0),(Pt 6372 0),(I 17),(I 33),(I 0),(Pt 6372 0),(I 1),(I 1),(I 0),(Pt 6372 0),(I 32),(I 5),(I 0),(Pt 6372 0),(I 33),(I 4),(I 0),(Pt 6372 0),(I 2),(I 5),(I 0),ff,(I 0)]⟩ 243 (0,0))),
 (7114,(.cells ⟨[(Pt 6768 0),(I 4)]⟩ 188 (0,0))),
 (7155,(.cells ⟨[(Pt 7114 0)]⟩ 153 (0,0)))]⟩
def Ev5:Env:=E2.more (pieceOf [pc4])
theorem Ev5_ok:Ev5.Ok:=pieces_more fun c hc args s h=>by
 simp only [List.mem_cons,List.not_mem_nil,or_false] at hc
 subst hc
 exact pc4_call h
set_option maxRecDepth 1000000 in
theorem pc5_ok:pc5.good Ev5 1000000=true:=by kernel_rfl
theorem pc5_call {args:List Value} {s:AS} (h:pc5.is args s=true):CallOk E2 pc5.f args s pc5.v (pc5.to s):=piece_ok (E:=Ev5) Ev5_ok pc5_ok h
end
end Go.Proofs.YtokibbgahefkbaaGreatDoor
