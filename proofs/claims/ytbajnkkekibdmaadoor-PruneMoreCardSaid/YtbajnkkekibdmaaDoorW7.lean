/- Walks of the document's newer, of cmp.Compare at uint32, of cmp.Or at two numbers, and of the sort's closure. -/
import Derived.Test.YtbajnkkekibdmaaDoorW6
import Derived.WalkLawsBesides
import Derived.Sort.Walk0
import Derived.StillTailTactics
namespace Go.Proofs.YtbajnkkekibdmaaDoor
open Go.RowKit Go.Shelf Go.Lib

theorem gtr_lists (a b : ByteArray) : (!(Op.bytesLess a.toList b.toList || a.toList == b.toList)) = decide (b.data.toList < a.data.toList) := by
  rw [toList_eq, toList_eq, bytesLess_eq, Bool.eq_iff_iff]
  simp only [Bool.not_eq_true', Bool.or_eq_false_iff, decide_eq_false_iff_not, beq_eq_false_iff_ne, decide_eq_true_eq, ne_eq]
  constructor
  · rintro ⟨h1, h2⟩
    have h3 : b.data.toList ≤ a.data.toList := List.not_lt.1 h1
    by_cases h4 : b.data.toList < a.data.toList
    · exact h4
    · exact absurd (List.le_antisymm (List.not_lt.1 h4) h3) h2
  · intro h
    refine ⟨fun h2 => List.lt_irrefl _ (List.lt_trans h h2), fun e => ?_⟩
    rw [e] at h
    exact List.lt_irrefl _ h

set_option maxHeartbeats 1000000 in
theorem newer_any (a b : ByteArray) (w : World) (ha : a.size ≤ maxLen) (hb : b.size ≤ maxLen) :
    Calls Tryd.prog 40 #[.string a, .string b] w fun e w' => e = .returned (.bool (Pl.newer a.data.toList b.data.toList)) ∧ w = w' := by
  have HA := hide (refStamp_any a w ha)
  have HB := hide (refStamp_any b w hb)
  have HN := hide (show Pl.newer a.data.toList b.data.toList = (decide (Pl.st b.data.toList < Pl.st a.data.toList) || (Pl.st a.data.toList == Pl.st b.data.toList && decide (b.data.toList < a.data.toList))) from rfl)
  have hg := gtr_lists a b
  clear ha hb
  generalize Pl.newer a.data.toList b.data.toList = r at HN ⊢
  generalize hx : Pl.st a.data.toList = x at HA HN
  generalize hy : Pl.st b.data.toList = y at HB HN
  generalize Pl.has a.data.toList = p at HA
  generalize Pl.has b.data.toList = q at HB
  clear hx hy
  generalize decide (b.data.toList < a.data.toList) = t at hg HN
  by_cases h1 : y < x
  · go_enter Tryd.func40, Tryd.ntmps40
    go_wp2_with fail
    refine HA.out.mono ?_
    rintro e w' ⟨rfl, rfl⟩
    go_wp2_with fail
    refine HB.out.mono ?_
    rintro e w' ⟨rfl, rfl⟩
    go_wp2_with fail
    go_ret
    exact ⟨ret_bool (by rw [HN.out]; simp [h1]), rfl⟩
  · by_cases h2 : x = y
    · have h3 : ((x : Int) == (y : Int)) = true := by simp [h2]
      have H2 := hide h2
      clear h2
      go_enter Tryd.func40, Tryd.ntmps40
      go_wp2_with fail
      refine HA.out.mono ?_
      rintro e w' ⟨rfl, rfl⟩
      go_wp2_with fail
      refine HB.out.mono ?_
      rintro e w' ⟨rfl, rfl⟩
      go_wp2_with fail
      go_ret
      refine ⟨ret_bool ?_, rfl⟩
      rw [HN.out, H2.out]
      simp
    · have h3 : ((x : Int) == (y : Int)) = false := by simp; omega
      have H2 := hide h2
      clear h2
      go_enter Tryd.func40, Tryd.ntmps40
      go_wp2_with fail
      refine HA.out.mono ?_
      rintro e w' ⟨rfl, rfl⟩
      go_wp2_with fail
      refine HB.out.mono ?_
      rintro e w' ⟨rfl, rfl⟩
      go_wp2_with fail
      go_ret
      refine ⟨ret_bool ?_, rfl⟩
      rw [HN.out]
      have := H2.out
      simp [h1, this]

set_option maxHeartbeats 400000 in
theorem cmpU32_any (x y : Nat) (w : World) : Calls Tryd.prog 37 #[.int .u32 x, .int .u32 y] w fun e w' => e = .returned (.int .i64 (Lib.compareInt x y)) ∧ w = w' := by
  by_cases h1 : x < y
  · go_enter Tryd.func37, Tryd.ntmps37
    go_wp2
    go_ret
    exact ⟨ret_int (by unfold Lib.compareInt; rw [if_pos (by omega)]), rfl⟩
  · by_cases h2 : y < x
    · go_enter Tryd.func37, Tryd.ntmps37
      go_wp2
      go_ret
      exact ⟨ret_int (by unfold Lib.compareInt; rw [if_neg (by omega), if_pos (by omega)]), rfl⟩
    · go_enter Tryd.func37, Tryd.ntmps37
      go_wp2
      go_ret
      exact ⟨ret_int (by unfold Lib.compareInt; rw [if_neg (by omega), if_neg (by omega)]), rfl⟩

/-- the first one that is not 0 -/
def or2 (a b : Int) : Int := if a = 0 then b else a
set_option maxHeartbeats 800000 in
theorem or_any (a b : Int) (blk : Nat) (w : World) (h0 : w.cell? ⟨blk, 0, none⟩ = some (.int .i64 a)) (h1 : w.cell? ⟨blk, 1, none⟩ = some (.int .i64 b)) :
    Calls Tryd.prog 36 #[.slice (some ⟨blk, 0, none⟩) 2 2] w fun e w' => e = .returned (.int .i64 (or2 a b)) ∧ w = w' := by
  by_cases ha : a = 0
  · have ha' : (a != 0) = false := by simp [ha]
    have HA := hide ha
    clear ha
    by_cases hb : b = 0
    · have hb' : (b != 0) = false := by simp [hb]
      have HB := hide hb
      clear hb
      go_enter Tryd.func36, Tryd.ntmps36
      go_wp2_with fail
      refine wp_loop_rounds 3 ?_
      rw [rounds_succ]
      go_wp2
      rw [rounds_succ]
      go_wp2
      rw [rounds_succ]
      go_wp2
      go_ret
      exact ⟨ret_int (by unfold or2; rw [if_pos HA.out, HB.out]), rfl⟩
    · have hb' : (b != 0) = true := by simp [hb]
      have HB := hide hb
      clear hb
      go_enter Tryd.func36, Tryd.ntmps36
      go_wp2_with fail
      refine wp_loop_rounds 2 ?_
      rw [rounds_succ]
      go_wp2
      rw [rounds_succ]
      go_wp2
      go_ret
      exact ⟨ret_int (by unfold or2; rw [if_pos HA.out]), rfl⟩
  · have ha' : (a != 0) = true := by simp [ha]
    have HA := hide ha
    clear ha
    go_enter Tryd.func36, Tryd.ntmps36
    go_wp2_with fail
    refine wp_loop_rounds 1 ?_
    rw [rounds_succ]
    go_wp2
    go_ret
    exact ⟨ret_int (by unfold or2; rw [if_neg HA.out]), rfl⟩

/-- one snapshot with a stamp, as the sort has it -/
structure One where
  i : Nat
  nm : ByteArray
  at_ : Nat
instance : Inhabited One := ⟨⟨0, ByteArray.empty, 0⟩⟩
def One.enc (x : One) : List Value := [.int .i64 x.i, .string x.nm, .int .u32 x.at_]
def cf (x y : One) : Int := or2 (Lib.compareInt y.at_ x.at_) (Lib.compareBytes y.nm.data.toList x.nm.data.toList)

theorem cell_new (w : World) (cs : Array Value) (t : TypeId) (i : Nat) : (w.alloc (.cells cs t)).cell? ⟨w.heap.size, i, none⟩ = cs[i]? := by
  unfold World.cell?
  dsimp only
  rw [heap_alloc_new w (.cells cs t)]
  rfl
theorem two_cells (W : World) (cs ds : Array Value) (t u : TypeId) : (∀ i, ((W.alloc (.cells cs t)).alloc (.cells ds u)).cell? ⟨W.heap.size, i, none⟩ = cs[i]?) ∧ ∀ i, ((W.alloc (.cells cs t)).alloc (.cells ds u)).cell? ⟨W.heap.size + 1, i, none⟩ = ds[i]? := by
  have hb : Below (W.alloc (.cells cs t)).heap.size (W.alloc (.cells cs t)) ((W.alloc (.cells cs t)).alloc (.cells ds u)) := (Below.refl _ _).alloc (Nat.le_refl _) _
  refine ⟨fun i => (hb.cell (p := ⟨W.heap.size, i, none⟩) (by simp)).trans (cell_new W cs t i), fun i => ?_⟩
  have := cell_new (W.alloc (.cells cs t)) ds u i
  rw [show (W.alloc (.cells cs t)).heap.size = W.heap.size + 1 from by simp] at this
  exact this
theorem or_new (a b : Int) (W : World) : Calls Tryd.prog 36 #[.slice (some ⟨W.heap.size, 0, none⟩) 2 2] (W.alloc (.cells #[.int .i64 a, .int .i64 b] 3)) fun e w' => e = .returned (.int .i64 (or2 a b)) ∧ W.alloc (.cells #[.int .i64 a, .int .i64 b] 3) = w' :=
  or_any a b _ _ (cell_new W _ _ 0) (cell_new W _ _ 1)

set_option maxHeartbeats 1000000 in
set_option maxRecDepth 100000 in
theorem closure_any (x y : One) (W : World) : Calls Tryd.prog 35 #[.agg #[.int .i64 x.i, .string x.nm, .int .u32 x.at_], .agg #[.int .i64 y.i, .string y.nm, .int .u32 y.at_]] W fun e w' => e = .returned (.int .i64 (cf x y)) ∧ ∃ q os, w' = Sort.grow (W.drewN q) os := by
  obtain ⟨xi, xn, xa⟩ := x
  obtain ⟨yi, yn, ya⟩ := y
  have hA := fun W' => (cmpU32_any ya xa W').mono (R' := fun e w'' => e = .returned (.int .i64 (Lib.compareInt ya xa)) ∧ w'' = W') fun e w' h => ⟨h.1, h.2.symm⟩
  have hB := fun W' => Any.strings_Compare Tryd.lays106 yn xn W'
  have hE := hide (show cf ⟨xi, xn, xa⟩ ⟨yi, yn, ya⟩ = or2 (Lib.compareInt ya xa) (Lib.compareBytes yn.data.toList xn.data.toList) from rfl)
  generalize Lib.compareInt ya xa = p at hA hE
  generalize Lib.compareBytes yn.data.toList xn.data.toList = q at hB hE
  change ∀ W', Calls Tryd.prog 38 _ _ _ at hB
  have HA := hide hA
  have HB := hide hB
  clear hA hB
  have hO := fun W' => hide (or_new p q W')
  dsimp only
  go_enter Tryd.func35, Tryd.ntmps35
  go_wp2_with fail
  obtain ⟨f, g⟩ := two_cells W #[.int .i64 xi, .string xn, .int .u32 xa] #[.int .i64 yi, .string yn, .int .u32 ya] 57 57
  have f1 := f 1
  have f2 := f 2
  have g1 := g 1
  have g2 := g 2
  clear f g
  have hz : ((W.alloc (.cells #[.int .i64 xi, .string xn, .int .u32 xa] 57)).alloc (.cells #[.int .i64 yi, .string yn, .int .u32 ya] 57)).heap.size = W.heap.size + 1 + 1 := by simp
  generalize hW : (W.alloc (.cells #[.int .i64 xi, .string xn, .int .u32 xa] 57)).alloc (.cells #[.int .i64 yi, .string yn, .int .u32 ya] 57) = W2 at *
  have HW := hide hW
  clear hW
  refine wp_region_still_tail 10 (by kernel_rfl) (by kernel_rfl) ?_
  simp only [List.take_succ_cons, List.take_zero, List.drop_succ_cons, List.drop_zero]
  have HZ := hide hz
  clear hz
  change wpStill _ _ W2.drew _ _ _
  change W2.drew.cell? _ = some _ at f1 f2 g1 g2
  change Hid (W2.drew.heap.size = _) at HZ
  have HW3 := hide (show ((W.alloc (.cells #[.int .i64 xi, .string xn, .int .u32 xa] 57)).alloc (.cells #[.int .i64 yi, .string yn, .int .u32 ya] 57)).drew = W2.drew from by rw [HW.out])
  clear HW
  still_step
  still_step
  still_step
  still_step
  still_call (HA.out _)
  still_step
  still_step
  still_step
  still_step
  still_call (HB.out _)
  refine wpStill_nil ?_
  change wpList _ _ _ _ _ W2.drew
  generalize hW4 : W2.drew = W3 at *
  clear hW4
  go_wp2_with fail
  refine (hO _).out.mono ?_
  rintro e w' ⟨rfl, rfl⟩
  go_wp2_with fail
  go_ret
  refine ⟨ret_int hE.out.symm, 1, #[.cells #[.int .i64 xi, .string xn, .int .u32 xa] 57, .cells #[.int .i64 yi, .string yn, .int .u32 ya] 57, .cells #[.int .i64 p, .int .i64 q] 3], ?_⟩
  rw [← HW3.out, Sort.alloc_eq_grow, Sort.alloc_eq_grow, Sort.alloc_eq_grow, Sort.grow_grow, Sort.drew_grow, Sort.grow_grow]
  rfl

theorem cmpLays (blk off size : Nat) (w : World) : CmpLays Tryd.prog 35 #[] One.enc 3 cf blk off size w :=
  fun _ _ _ _ x y => closure_any x y _

theorem cmpB (a : List UInt8) : ∀ b : List UInt8, (Lib.compareBytes a b < 0 ↔ a < b) ∧ (Lib.compareBytes a b = 0 ↔ a = b) := by
  induction a with
  | nil =>
    intro b
    cases b with
    | nil => simp [Lib.compareBytes]
    | cons y b => simp [Lib.compareBytes]
  | cons x a ih =>
    intro b
    cases b with
    | nil => simp [Lib.compareBytes]
    | cons y b =>
      obtain ⟨h1, h2⟩ := ih b
      unfold Lib.compareBytes
      rw [List.cons_lt_cons_iff]
      by_cases hxy : x < y
      · have hne : x ≠ y := fun e => by subst e; exact absurd hxy (UInt8.lt_irrefl x)
        simp [hxy, hne]
      · by_cases hyx : y < x
        · have hne : x ≠ y := fun e => by subst e; exact absurd hyx (UInt8.lt_irrefl x)
          simp [hxy, hyx, hne]
        · have e : x = y := UInt8.le_antisymm (UInt8.not_lt.1 hyx) (UInt8.not_lt.1 hxy)
          subst e
          simp only [UInt8.lt_irrefl, if_false, false_or, true_and, List.cons.injEq]
          exact ⟨h1, h2⟩

/-- 'cmp(a, b) < 0': a is newer than b -/
theorem cf_neg (x y : One) : ltOf cf x y = true ↔ y.at_ < x.at_ ∨ (x.at_ = y.at_ ∧ y.nm.data.toList < x.nm.data.toList) := by
  unfold ltOf cf or2 Lib.compareInt
  rw [decide_eq_true_eq]
  obtain ⟨h1, _⟩ := cmpB y.nm.data.toList x.nm.data.toList
  by_cases ha : y.at_ < x.at_
  · have e : ((y.at_ : Int) < (x.at_ : Int)) := by omega
    simp [ha, e]
  · by_cases hb : x.at_ < y.at_
    · have e1 : ¬ ((y.at_ : Int) < (x.at_ : Int)) := by omega
      have e2 : ((y.at_ : Int) > (x.at_ : Int)) := by omega
      have e3 : x.at_ ≠ y.at_ := by omega
      simp [ha, e1, e2, e3]
    · have e1 : ¬ ((y.at_ : Int) < (x.at_ : Int)) := by omega
      have e2 : ¬ ((y.at_ : Int) > (x.at_ : Int)) := by omega
      have e3 : x.at_ = y.at_ := by omega
      rw [if_neg e1, if_neg e2, if_pos rfl, h1]
      simp [e3]

theorem swo : Sort.SWO (ltOf cf) where
  irrefl x := by
    rw [← Bool.not_eq_true, cf_neg]
    rintro (h | ⟨_, h⟩)
    · omega
    · exact List.lt_irrefl _ h
  trans x y z h1 h2 := by
    rw [cf_neg] at *
    rcases h1 with h1 | ⟨e1, h1⟩ <;> rcases h2 with h2 | ⟨e2, h2⟩
    · left; omega
    · left; omega
    · left; omega
    · right; exact ⟨by omega, List.lt_trans h2 h1⟩
  ntrans x y z h1 h2 := by
    rw [← Bool.not_eq_true, cf_neg] at *
    rintro (h | ⟨e, h⟩)
    · have a1 : ¬ y.at_ < x.at_ := fun c => h1 (.inl c)
      have a2 : ¬ z.at_ < y.at_ := fun c => h2 (.inl c)
      omega
    · have a1 : ¬ y.at_ < x.at_ := fun c => h1 (.inl c)
      have a2 : ¬ z.at_ < y.at_ := fun c => h2 (.inl c)
      have e1 : x.at_ = y.at_ := by omega
      have e2 : y.at_ = z.at_ := by omega
      have b1 : ¬ y.nm.data.toList < x.nm.data.toList := fun c => h1 (.inr ⟨e1, c⟩)
      have b2 : ¬ z.nm.data.toList < y.nm.data.toList := fun c => h2 (.inr ⟨e2, c⟩)
      have c1 : x.nm.data.toList ≤ y.nm.data.toList := List.not_lt.1 b1
      have c2 : y.nm.data.toList ≤ z.nm.data.toList := List.not_lt.1 b2
      exact absurd h (List.not_lt.2 (List.le_trans c1 c2))
end Go.Proofs.YtbajnkkekibdmaaDoor
