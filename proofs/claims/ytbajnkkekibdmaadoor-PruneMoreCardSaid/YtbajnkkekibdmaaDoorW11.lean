/- Walk of Keep: the ways that end in an error ahead of any loop. -/
import Derived.Test.YtbajnkkekibdmaaDoorW10
namespace Go.Proofs.YtbajnkkekibdmaaDoor
open Go.RowKit Go.Shelf Go.Lib

/-- what Keep hands back -/
def KeepRes (ss : List ByteArray) (p : Po) (w : World) (e : Ending) (w' : World) : Prop :=
  ∃ (A : Option Addr) (cap : Nat), e = .returned (.tuple #[.slice A (Pl.keep (bss ss) p.pol).length cap, .int .i64 (Pl.err (bss ss) p.pol)]) ∧ Below w.heap.size w w' ∧ Mem w' w'.heap.size A (bools (Pl.keep (bss ss) p.pol))

theorem keep_none {ss : List ByteArray} {p : Po} (h : Pl.err (bss ss) p.pol ≠ 0) : Pl.keep (bss ss) p.pol = [] := by unfold Pl.keep; rw [if_neg h]
theorem keepRes_none {ss : List ByteArray} {p : Po} {w w' : World} {x : Int} (h : Pl.err (bss ss) p.pol = x) (hx : x ≠ 0) (hb : Below w.heap.size w w') : KeepRes ss p w (.returned (.tuple #[.slice none 0 0, .int .i64 x])) w' := by
  have e := keep_none (h ▸ hx)
  exact ⟨none, 0, by rw [e, h]; rfl, hb, by rw [e]; exact Mem.nil⟩

set_option maxHeartbeats 1000000 in
set_option maxRecDepth 100000 in
theorem keep_bad (p : Po) (RA PA : Option Addr) (rc pc : Nat) (A : Option Addr) (cap : Nat) (ss : List ByteArray) (w : World) (hp : PoAt w w.heap.size p RA PA) (hmay : Pl.may p.pol = false) :
    Calls Tryd.prog 10 #[.slice A ss.length cap, .agg #[.int .i64 p.last, .slice RA p.rs.length rc, .slice PA p.ps.length pc]] w (KeepRes ss p w) := by
  have hB0 : ∀ o, Below w.heap.size w (w.alloc o) := fun o => (Below.refl _ _).alloc (Nat.le_refl _) o
  have HM := fun o => hide (may_any p RA PA rc pc (w.alloc o) ((hp.below (hB0 o)).mono (by simp)))
  have HE := hide (show Pl.err (bss ss) p.pol = 2 from by unfold Pl.err; rw [hmay]; rfl)
  rw [hmay] at HM
  clear hmay hp
  go_enter Tryd.func10, Tryd.ntmps10
  go_wp2_with (go_at_call 13; refine (HM _).out.mono ?_; rintro e w1 ⟨rfl, hb⟩; have HB := hide hb; clear hb)
  go_ret2
  exact keepRes_none HE.out (by decide) ((hB0 _).trans (HB.out.mono (by simp)))

set_option maxHeartbeats 1000000 in
set_option maxRecDepth 100000 in
theorem keep_long (p : Po) (RA PA : Option Addr) (rc pc : Nat) (A : Option Addr) (cap : Nat) (ss : List ByteArray) (w : World) (hp : PoAt w w.heap.size p RA PA) (hmay : Pl.may p.pol = true) (hl : 256 < ss.length) :
    Calls Tryd.prog 10 #[.slice A ss.length cap, .agg #[.int .i64 p.last, .slice RA p.rs.length rc, .slice PA p.ps.length pc]] w (KeepRes ss p w) := by
  have hB0 : ∀ o, Below w.heap.size w (w.alloc o) := fun o => (Below.refl _ _).alloc (Nat.le_refl _) o
  have HM := fun o => hide (may_any p RA PA rc pc (w.alloc o) ((hp.below (hB0 o)).mono (by simp)))
  have HE := hide (show Pl.err (bss ss) p.pol = 6 from by unfold Pl.err; rw [hmay]; simp [bss, hl])
  rw [hmay] at HM
  clear hmay hp
  go_enter Tryd.func10, Tryd.ntmps10
  go_wp2_with (go_at_call 13; refine (HM _).out.mono ?_; rintro e w1 ⟨rfl, hb⟩; have HB := hide hb; clear hb)
  go_ret2
  exact keepRes_none HE.out (by decide) ((hB0 _).trans (HB.out.mono (by simp)))
end Go.Proofs.YtbajnkkekibdmaaDoor
