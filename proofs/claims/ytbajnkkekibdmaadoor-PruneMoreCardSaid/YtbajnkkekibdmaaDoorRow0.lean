/- The arguments of the statements, opened: names, rules and a policy as they lie in memory when the call begins. -/
import Derived.Test.YtbajnkkekibdmaaDoorW5
import Derived.Deep.SlicePairs
import Derived.SliceStrings
import Derived.Lib.SmallJoins
import Derived.ProofKit
namespace Go.Proofs.YtbajnkkekibdmaaDoor
open Go.ChangeShapes Go.WideShapes Go.RowKit Go.Deep

theorem mem_of {W : World} {a : Addr} {xs : List Value} (hc : ∀ i (h : i < xs.length), W.cell? (a.add i) = some xs[i]) : Mem W W.heap.size (some a) xs := by
  intro h0
  have h := hc 0 h0
  obtain ⟨b, off, spot⟩ := a
  cases spot with
  | some s =>
    exfalso
    unfold World.cell? Addr.add at h
    simp only [if_true] at h
    split at h <;> simp at h
  | none =>
    refine ⟨b, off, rfl, ?_, fun i hi => ?_⟩
    · by_cases hb : b < W.heap.size
      · exact hb
      · exfalso
        unfold World.cell? Addr.add at h
        simp [Array.getElem?_eq_none (Nat.le_of_not_lt hb)] at h
    · have h2 := hc i hi
      unfold Addr.add at h2
      split at h2
      · rename_i e; subst e; exact h2
      · exact h2
section
variable {H : Type} {enc : TypeId × Value → H} {W : World}
theorem open_names {n : Nat} {v : Value} {x : DataW H × List MemPlace} (h : DataW.trod enc Tryd.prog W 0 (fun _ => true) true n 22 [v] = some x) :
    ∃ (A : Option Addr) (ss : List ByteArray) (cap : Nat), v = .slice A ss.length cap ∧ Mem W W.heap.size A (strs ss) ∧ ss.length ≤ maxLen ∧ ∀ s ∈ ss, s.size ≤ maxLen := by
  rcases open_strings Tryd.underlying22 Tryd.underlying9 (by kernel_rfl) h with ⟨hcs, _⟩ | ⟨a, len, cap, ss, hcs, _, hl, hm, hz, _, hcell, hsz⟩
  · injection hcs with hcs
    exact ⟨none, [], 0, hcs, Mem.nil, by simp, by simp⟩
  · injection hcs with hcs
    simp only [if_true] at hz
    have hlen : (ss.take len).length = len := by rw [List.length_take]; omega
    refine ⟨some a, ss.take len, cap, by rw [hlen]; exact hcs, mem_of fun i hi => ?_, by omega, fun s hs => hsz s (List.mem_of_mem_take hs)⟩
    rw [strs_len, hlen] at hi
    rw [hcell i (by omega)]
    simp [strs, List.getD, List.getElem?_eq_getElem (show i < ss.length by omega)]
/-- the number in a cell -/
def numOf : Value → Int
  | .int _ n => n
  | _ => 0
theorem open_rules {n : Nat} {v : Value} {x : DataW H × List MemPlace} (h : DataW.trod enc Tryd.prog W 0 (fun _ => true) true n 23 [v] = some x) :
    ∃ (A : Option Addr) (rs : List (Int × Int)) (cap : Nat), v = .slice A rs.length cap ∧ Mem W W.heap.size A (rules rs) ∧ rs.length ≤ maxLen ∧ ∀ r ∈ rs, 0 ≤ r.1 ∧ r.1 < 4294967296 := by
  rcases open_slice_pairs Tryd.underlying23 Tryd.underlying46 (by kernel_rfl) rfl rfl (by kernel_rfl) (by kernel_rfl) h with ⟨hcs, _⟩ | ⟨a, len, cap, m, n', V0, V1, D0, D1, P0, P1, hcs, _, hl, hm, hz, _, hf⟩
  · injection hcs with hcs
    exact ⟨none, [], 0, hcs, Mem.nil, by simp, by simp⟩
  · injection hcs with hcs
    simp only [if_true] at hz
    have each : ∀ i, i < len → V0 i = .int .u32 (numOf (V0 i)) ∧ V1 i = .int .i64 (numOf (V1 i)) ∧ 0 ≤ numOf (V0 i) ∧ numOf (V0 i) < 4294967296 := by
      intro i hi
      obtain ⟨_, _, t0, t1⟩ := hf i (by omega)
      obtain ⟨z0, e0, _, w0⟩ := DataW.trod_int Tryd.underlying28 t0
      obtain ⟨z1, e1, _, _⟩ := DataW.trod_int Tryd.underlying3 t1
      injection e0 with e0
      injection e1 with e1
      rw [e0, e1]
      have hw : (decide (IntKind.u32.min ≤ z0) && decide (z0 ≤ IntKind.u32.max)) = true := w0
      rw [Bool.and_eq_true, decide_eq_true_eq, decide_eq_true_eq] at hw
      have hmin : IntKind.u32.min = 0 := rfl
      have hmax : IntKind.u32.max = 4294967295 := rfl
      exact ⟨rfl, rfl, by simp only [numOf]; omega, by simp only [numOf]; omega⟩
    have hlen : ((List.range len).map fun i => (numOf (V0 i), numOf (V1 i))).length = len := by simp
    refine ⟨some a, (List.range len).map fun i => (numOf (V0 i), numOf (V1 i)), cap, by rw [hlen]; exact hcs, mem_of fun i hi => ?_, by omega, fun r hr => ?_⟩
    · rw [rules_len, hlen] at hi
      obtain ⟨g0, g1⟩ := rules_get? ((List.range len).map fun i => (numOf (V0 i), numOf (V1 i))) (i / 2) (by rw [hlen]; omega)
      obtain ⟨c0, c1, _, _⟩ := hf (i / 2) (by omega)
      obtain ⟨e0, e1, _⟩ := each (i / 2) (by omega)
      rcases Nat.mod_two_eq_zero_or_one i with hp | hp
      · have hi2 : i = 2 * (i / 2) := by omega
        rw [show i / 2 * 2 = i by omega, e0] at c0
        rw [← hi2, List.getElem?_eq_getElem (by rw [rules_len, hlen]; omega)] at g0
        rw [c0, Option.some.inj g0]
        simp
      · have hi2 : i = 2 * (i / 2) + 1 := by omega
        rw [show i / 2 * 2 + 1 = i by omega, e1] at c1
        rw [← hi2, List.getElem?_eq_getElem (by rw [rules_len, hlen]; omega)] at g1
        rw [c1, Option.some.inj g1]
        simp
    · obtain ⟨i, hi, rfl⟩ := List.mem_map.1 hr
      exact (each i (List.mem_range.1 hi)).2.2
set_option maxRecDepth 100000 in
/-- a policy, opened -/
theorem open_policy {n0 : Nat} {v : Value} {d : DataW H} {ps : List MemPlace} (hv : Value.okWide Tryd.prog W .any n0 25 v) (h : DataW.Trod enc Tryd.prog W 0 (fun _ => true) true 25 v d ps) :
    ∃ (p : Po) (RA PA : Option Addr) (rc pc : Nat), v = .agg #[.int .i64 p.last, .slice RA p.rs.length rc, .slice PA p.ps.length pc] ∧ PoAt W W.heap.size p RA PA ∧ ∀ r ∈ p.rs, 0 ≤ r.1 ∧ r.1 < 4294967296 := by
  obtain ⟨v0, v1, v2, y0, y1, y2, n, rfl, _, _, t0, t1, t2⟩ := Joins.open_agg3 Tryd.underlying25 (by kernel_rfl) (by kernel_rfl) hv h
  obtain ⟨z, e0, _, _⟩ := DataW.trod_int Tryd.underlying3 t0
  obtain ⟨RA, rs, rc, rfl, hr, hrl, hsp⟩ := open_rules t1
  obtain ⟨PA, qs, pc, rfl, hp, hpl, hpt⟩ := open_names t2
  injection e0 with e0
  subst e0
  unfold maxLen at hrl hpl
  have h1 : rs.length ≤ 9223372036854775807 := by omega
  have h2 : qs.length ≤ 9223372036854775807 := by omega
  exact ⟨⟨z, rs, qs⟩, RA, PA, rc, pc, rfl, ⟨hr, hp, h1, h2, hpt⟩, hsp⟩
set_option maxRecDepth 100000 in
/-- names, opened -/
theorem open_namesArg {n0 : Nat} {v : Value} {d : DataW H} {ps : List MemPlace} (hv : Value.okWide Tryd.prog W .any n0 22 v) (h : DataW.Trod enc Tryd.prog W 0 (fun _ => true) true 22 v d ps) :
    ∃ (A : Option Addr) (ss : List ByteArray) (cap : Nat), v = .slice A ss.length cap ∧ Mem W W.heap.size A (strs ss) ∧ ss.length ≤ maxLen ∧ ∀ s ∈ ss, s.size ≤ maxLen := by
  obtain ⟨a, len, cap, rfl⟩ := okWide_slice Tryd.underlying22 hv
  obtain ⟨fuel, hf⟩ := h
  exact open_names hf
end
end Go.Proofs.YtbajnkkekibdmaaDoor
