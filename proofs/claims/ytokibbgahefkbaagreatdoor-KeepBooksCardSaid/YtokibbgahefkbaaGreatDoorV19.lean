/- A memo: what a call that only reads gave. A memo: what a call that only reads gave. A memo: what a call that only reads gave. -/
import Derived.Test.YtokibbgahefkbaaGreatDoorV17
set_option linter.all false
namespace Go.Proofs.YtokibbgahefkbaaGreatDoor
open Go
noncomputable section
def me7:ME:=⟨269, [],⟨311, .u8,n2⟩,0,false,512,512, [(I 64)],(Tu [(Ag ([(I 64),(U 1)] ++ (List.replicate 15 (U 0)))),(I 0)])⟩
theorem me7_ok:me7.good E0 1000000=true:=by kernel_rfl
end
end Go.Proofs.YtokibbgahefkbaaGreatDoor
namespace Go.Proofs.YtokibbgahefkbaaGreatDoor
open Go
noncomputable section
def me8:ME:=⟨269, [],⟨311, .u8,n37⟩,0,false,512,512, [(I 64)],(Tu [(Ag ([(I 64),(U 127)] ++ (List.replicate 15 (U 0)))),(I 0)])⟩
theorem me8_ok:me8.good E0 1000000=true:=by kernel_rfl
end
end Go.Proofs.YtokibbgahefkbaaGreatDoor
namespace Go.Proofs.YtokibbgahefkbaaGreatDoor
open Go
noncomputable section
def me9:ME:=⟨269, [],⟨311, .u8,n57⟩,0,false,512,512, [(I 64)],(Tu [(Ag ([(I 64),(U 123)] ++ (List.replicate 15 (U 0)))),(I 0)])⟩
theorem me9_ok:me9.good E0 1000000=true:=by kernel_rfl
end
end Go.Proofs.YtokibbgahefkbaaGreatDoor
