/- A piece of the run: armarium/pages.Format 457 3540. -/
import Derived.Test.YtokibbgahefkbaaGreatDoorV22
set_option linter.all false
namespace Go.Proofs.YtokibbgahefkbaaGreatDoor
open Go
noncomputable section
def pc1:CE:=⟨133, [(Pt 434 0),(I 96),(I 64),(St [0,4])],457, [(2,gFirst.2.obj),
 (3,gBr),
 (4,gK.2.obj),
 (5,gHalves.2.obj),
 (433,(.chan 369 ⟨(List.replicate 182 (Ag qr0))⟩ false 512 0 false)),
 (434,(.cells ⟨[(.int .i64 (.negSucc 0)),e0,(Sx 433 0 182 182),s0,ff,(U 0)]⟩ 147 (0,0)))],(I 0),3540, [(2,gFirst.2.obj),
 (3,gBr),
 (4,gK.2.obj),
 (5,gHalves.2.obj),
 (433,(.chan 369 ⟨([(Ag qr0),(Ag qr3)] ++ (List.replicate 96 (Ag qr0))++ [(Ag qr2)] ++ (List.replicate 83 (Ag qr0)))⟩ false 512 0 false)),
 (434,(.cells ⟨[(.int .i64 (.negSucc 0)),e0,(Sx 433 0 182 182),s0,ff,(U 67)]⟩ 147 (0,0)))]⟩
def Ev1:Env:=E2.more (pieceOf [pc0])
theorem Ev1_ok:Ev1.Ok:=pieces_more fun c hc args s h=>by
 simp only [List.mem_cons,List.not_mem_nil,or_false] at hc
 subst hc
 exact pc0_call h
set_option maxRecDepth 1000000 in
theorem pc1_ok:pc1.good Ev1 1000000=true:=by kernel_rfl
theorem pc1_call {args:List Value} {s:AS} (h:pc1.is args s=true):CallOk E2 pc1.f args s pc1.v (pc1.to s):=piece_ok (E:=Ev1) Ev1_ok pc1_ok h
end
end Go.Proofs.YtokibbgahefkbaaGreatDoor
