/- A memo: what a call that only reads gave. A memo: what a call that only reads gave. A memo: what a call that only reads gave. A memo: what a call that only reads gave. -/
import Derived.Test.YtokibbgahefkbaaGreatDoorV17
set_option linter.all false
namespace Go.Proofs.YtokibbgahefkbaaGreatDoor
open Go
noncomputable section
def me10:ME:=⟨269, [],⟨311, .u8,n60⟩,0,false,512,512, [(I 64)],(Tu [(Ag ([(I 64),(U 59)] ++ (List.replicate 15 (U 0)))),(I 0)])⟩
theorem me10_ok:me10.good E0 1000000=true:=by kernel_rfl
end
end Go.Proofs.YtokibbgahefkbaaGreatDoor
namespace Go.Proofs.YtokibbgahefkbaaGreatDoor
open Go
noncomputable section
def me11:ME:=⟨269, [],⟨369, .u8,n12⟩,0,false,512,512, [(I 64)],(Tu [(Ag ([(I 64),(U 3)] ++ (List.replicate 15 (U 0)))),(I 0)])⟩
theorem me11_ok:me11.good E0 1000000=true:=by kernel_rfl
end
end Go.Proofs.YtokibbgahefkbaaGreatDoor
namespace Go.Proofs.YtokibbgahefkbaaGreatDoor
open Go
noncomputable section
def me12:ME:=⟨269, [],⟨369, .u8,n2⟩,0,false,512,512, [(I 64)],(Tu [(Ag ([(I 64),(U 1)] ++ (List.replicate 15 (U 0)))),(I 0)])⟩
theorem me12_ok:me12.good E0 1000000=true:=by kernel_rfl
end
end Go.Proofs.YtokibbgahefkbaaGreatDoor
namespace Go.Proofs.YtokibbgahefkbaaGreatDoor
open Go
noncomputable section
def me13:ME:=⟨322, [gHalves],⟨369, .u8,n0⟩,0,false,512,512, [],(Tu [(Ag [(U 0),ff,e0]),(I 3)])⟩
theorem me13_ok:me13.good E0 1000000=true:=by kernel_rfl
end
end Go.Proofs.YtokibbgahefkbaaGreatDoor
