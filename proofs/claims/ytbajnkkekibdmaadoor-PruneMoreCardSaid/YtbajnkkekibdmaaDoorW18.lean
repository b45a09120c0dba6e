/- Walk of wakes. -/
import Derived.Test.YtbajnkkekibdmaaDoorW16
import Derived.Test.YtbajnkkekibdmaaDoorW6
namespace Go.Proofs.YtbajnkkekibdmaaDoor
open Go.RowKit Go.Shelf Go.Lib

def wk1 : List ByteArray := [⟨#[97, 49]⟩, ⟨#[97, 50]⟩, ⟨#[97, 49, 49]⟩, ⟨#[97, 49, 50]⟩, ⟨#[97, 50, 53]⟩, ⟨#[122]⟩]
def wp1 : Po := ⟨1, [(10, 2)], []⟩
def wk2 : List ByteArray := [⟨#[97]⟩, ⟨#[97]⟩]
def wp2 : Po := ⟨0, [], []⟩
theorem wk1_keep : Pl.keep (bss wk1) wp1.pol = [false, false, false, true, true, true] := by kernel_rfl
theorem wk1_err : Pl.err (bss wk1) wp1.pol = 0 := by kernel_rfl
theorem wk2_keep : Pl.keep (bss wk2) wp2.pol = [] := by kernel_rfl
theorem wk2_err : Pl.err (bss wk2) wp2.pol = 9 := by kernel_rfl
theorem mem_new (w : World) (cs : List Value) (t : TypeId) : Mem (w.alloc (.cells cs.toArray t)) (w.alloc (.cells cs.toArray t)).heap.size (some ⟨w.heap.size, 0, none⟩) cs := by
  refine fun _ => ⟨w.heap.size, 0, rfl, by simp, fun i hi => ?_⟩
  rw [Nat.zero_add, cell_new]
  simp
theorem wk1_any (w W : World) (h1 : Mem W W.heap.size (some ⟨w.heap.size, 0, none⟩) (strs wk1)) (h2 : Mem W W.heap.size (some ⟨w.heap.size + 1, 0, none⟩) (rules wp1.rs)) :
    Calls Tryd.prog 10 #[.slice (some ⟨w.heap.size, 0, none⟩) 6 6, .agg #[.int .i64 1, .slice (some ⟨w.heap.size + 1, 0, none⟩) 1 1, .slice none 0 0]] W fun e w' => ∃ A cap, e = .returned (.tuple #[.slice A 6 cap, .int .i64 0]) ∧ Below W.heap.size W w' ∧ Mem w' w'.heap.size A (bools [false, false, false, true, true, true]) := by
  have h := keep_any wp1 (some ⟨w.heap.size + 1, 0, none⟩) none 1 0 (some ⟨w.heap.size, 0, none⟩) 6 wk1 W ⟨h2, Mem.nil, by decide, by decide, by simp [wp1]⟩ h1 (by decide) (by simp [wp1])
  refine h.mono ?_
  rintro e w' ⟨A, cap, he, hb, hm⟩
  rw [wk1_keep] at he hm
  rw [wk1_err] at he
  exact ⟨A, cap, he, hb, hm⟩
theorem wk2_any (a : Nat) (W : World) (h1 : Mem W W.heap.size (some ⟨a, 0, none⟩) (strs wk2)) :
    Calls Tryd.prog 10 #[.slice (some ⟨a, 0, none⟩) 2 2, .agg #[.int .i64 0, .slice none 0 0, .slice none 0 0]] W fun e w' => ∃ A cap, e = .returned (.tuple #[.slice A 0 cap, .int .i64 9]) ∧ Below W.heap.size W w' := by
  have h := keep_any wp2 none none 0 0 (some ⟨a, 0, none⟩) 2 wk2 W ⟨Mem.nil, Mem.nil, by decide, by decide, by simp [wp2]⟩ h1 (by decide) (by simp [wp2])
  refine h.mono ?_
  rintro e w' ⟨A, cap, he, hb, hm⟩
  rw [wk2_keep, wk2_err] at he
  exact ⟨A, cap, he, hb⟩

set_option maxHeartbeats 2000000 in
set_option maxRecDepth 100000 in
theorem wakes_any (w : World) : Calls Tryd.prog 7 #[] w fun e w' => e = .returned (.bool true) ∧ Below w.heap.size w w' := by
  have HSt := fun W => hide (stamp_any ⟨#[120, 48, 48, 55]⟩ W (by decide))
  have hs1 : Pl.st [120, 48, 48, 55] = 7 := by kernel_rfl
  have hs2 : Pl.has [120, 48, 48, 55] = true := by kernel_rfl
  dsimp only at HSt
  rw [hs1, hs2] at HSt
  clear hs1 hs2
  have HW1 := fun W a b => hide (wk1_any w W a b)
  have HW2 := fun a W h => hide (wk2_any a W h)
  go_enter Tryd.func7, Tryd.ntmps7
  go_wp2_with fail
  have hz1 : (w.alloc (.cells (strs wk1).toArray 9)).heap.size = w.heap.size + 1 := by simp
  have hb0 : Below w.heap.size w ((w.alloc (.cells (strs wk1).toArray 9)).alloc (.cells (rules wp1.rs).toArray 45)) := ((Below.refl _ _).alloc (Nat.le_refl _) _).alloc (by rw [hz1]; omega) _
  have m1 := ((mem_new w (strs wk1) 9).below ((Below.refl _ _).alloc (Nat.le_refl _) (.cells (rules wp1.rs).toArray 45))).mono (by simp : (w.alloc (.cells (strs wk1).toArray 9)).heap.size ≤ ((w.alloc (.cells (strs wk1).toArray 9)).alloc (.cells (rules wp1.rs).toArray 45)).heap.size)
  have m2 := mem_new (w.alloc (.cells (strs wk1).toArray 9)) (rules wp1.rs) 45
  rw [hz1] at m2
  refine (HW1 _ m1 m2).out.mono ?_
  rintro e w1 ⟨A1, cap1, rfl, hb1, hm1⟩
  have HB1 := hide (hb0.trans (hb1.mono hb0.size))
  obtain ⟨b, off, rfl, hlt, hc⟩ := bool_at hm1 (k := 0) (by decide)
  have f0 : w1.cell? ⟨b, off, none⟩ = some (.bool false) := hc 0 (by decide)
  have f1 : w1.cell? ⟨b, off + 1, none⟩ = some (.bool false) := hc 1 (by decide)
  have f2 : w1.cell? ⟨b, off + 2, none⟩ = some (.bool false) := hc 2 (by decide)
  have f3 : w1.cell? ⟨b, off + 3, none⟩ = some (.bool true) := hc 3 (by decide)
  have f4 : w1.cell? ⟨b, off + 4, none⟩ = some (.bool true) := hc 4 (by decide)
  have f5 : w1.cell? ⟨b, off + 5, none⟩ = some (.bool true) := hc 5 (by decide)
  have HC := hide (show ∀ w2, Below w1.heap.size w1 w2 → (w2.cell? ⟨b, off, none⟩ = some (.bool false) ∧ w2.cell? ⟨b, off + 1, none⟩ = some (.bool false) ∧ w2.cell? ⟨b, off + 2, none⟩ = some (.bool false) ∧ w2.cell? ⟨b, off + 3, none⟩ = some (.bool true) ∧ w2.cell? ⟨b, off + 4, none⟩ = some (.bool true) ∧ w2.cell? ⟨b, off + 5, none⟩ = some (.bool true)) from fun w2 h =>
    ⟨(h.cell hlt).trans f0, (h.cell hlt).trans f1, (h.cell hlt).trans f2, (h.cell hlt).trans f3, (h.cell hlt).trans f4, (h.cell hlt).trans f5⟩)
  clear hb0 hb1 hm1 hc f0 f1 f2 f3 f4 f5 m1 m2 hz1 HW1
  have HM2 := hide (mem_new w1 (strs wk2) 9)
  go_wp2_with (go_at_call 10; refine (HW2 _ _ HM2.out).out.mono ?_; rintro e w2 ⟨A2, cap2, rfl, hb2⟩; have HB2 : Hid (Below w1.heap.size w1 w2) := hide (((Below.refl _ _).alloc (Nat.le_refl _) _).trans (hb2.mono (by simp))); clear hb2)
  refine (HSt _).out.mono ?_
  rintro e w3 ⟨rfl, hb3⟩
  have HB3 : Hid (Below w1.heap.size w1 w3) := hide (HB2.out.trans (hb3.mono HB2.out.size))
  clear hb3
  obtain ⟨f0, f1, f2, f3, f4, f5⟩ := HC.out w3 HB3.out
  go_wp2_with fail
  go_ret
  exact ⟨rfl, HB1.out.trans (HB3.out.mono HB1.out.size)⟩
end Go.Proofs.YtbajnkkekibdmaaDoor
