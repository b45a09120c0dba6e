/- Package bits: a map of pages; New, on, Has, Set. -/
import Derived.Test.YtnnfiicmplkakaaGreatDoorQ5
import Derived.Laws.Bits64b
import Derived.Laws.ShiftsVarLaws
namespace Go.Proofs.YtnnfiicmplkakaaGreatDoor
open Go.RowKit Go.Shelf

/-! ### words -/
def wordsV (ws : List Nat) : List Value := ws.map fun (x : Nat) => .int .u64 (x : Int)
def mapC (n : Nat) (ws : List Nat) : List Value := .int .i64 (n : Int) :: wordsV ws
def mapV (n : Nat) (ws : List Nat) : Value := .agg (mapC n ws).toArray
structure MapOk (n : Nat) (ws : List Nat) : Prop where
  len : ws.length = 16
  lt : ∀ x ∈ ws, x < 18446744073709551616
  n0 : 1 ≤ n
  n1 : n ≤ 1024
theorem len16 {ws : List Nat} (h : ws.length = 16) : ∃ a0 a1 a2 a3 a4 a5 a6 a7 a8 a9 a10 a11 a12 a13 a14 a15, ws = [a0, a1, a2, a3, a4, a5, a6, a7, a8, a9, a10, a11, a12, a13, a14, a15] := by
  rcases ws with _ | ⟨a0, _ | ⟨a1, _ | ⟨a2, _ | ⟨a3, _ | ⟨a4, _ | ⟨a5, _ | ⟨a6, _ | ⟨a7, _ | ⟨a8, _ | ⟨a9, _ | ⟨a10, _ | ⟨a11, _ | ⟨a12, _ | ⟨a13, _ | ⟨a14, _ | ⟨a15, _ | ⟨a16, ws⟩⟩⟩⟩⟩⟩⟩⟩⟩⟩⟩⟩⟩⟩⟩⟩⟩ <;> simp at h
  exact ⟨_, _, _, _, _, _, _, _, _, _, _, _, _, _, _, _, rfl⟩
set_option maxHeartbeats 1000000 in
theorem on_any (n : Nat) (ws : List Nat) (i : Int) (w : World) (h : ws.length = 16) :
    Calls Tryz.prog 153 #[mapV n ws, .int .i64 i] w fun e w' => e = .returned (.bool (decide (0 ≤ i ∧ i < n))) ∧ Below w.heap.size w w' := by
  obtain ⟨a0, a1, a2, a3, a4, a5, a6, a7, a8, a9, a10, a11, a12, a13, a14, a15, rfl⟩ := len16 h
  unfold mapV mapC wordsV
  simp only [List.map_cons, List.map_nil]
  have hb : Below w.heap.size w (w.alloc (.cells #[.int .i64 (n : Int), .int .u64 a0, .int .u64 a1, .int .u64 a2, .int .u64 a3, .int .u64 a4, .int .u64 a5, .int .u64 a6, .int .u64 a7, .int .u64 a8, .int .u64 a9, .int .u64 a10, .int .u64 a11, .int .u64 a12, .int .u64 a13, .int .u64 a14, .int .u64 a15] 194)) := (Below.refl _ _).alloc (Nat.le_refl _) _
  have HB := hide hb
  clear hb
  by_cases h0 : 0 ≤ i
  · have d0 : (i < 0) = False := by simp; omega
    have h2 : (decide (0 ≤ i ∧ i < (n : Int))) = decide (i < (n : Int)) := by simp [h0]
    rw [h2]
    generalize hd : decide (i < (n : Int)) = b
    go_enter Tryz.func153, Tryz.ntmps153
    go_wp2
    go_ret
    exact ⟨rfl, HB.out⟩
  · have h2 : (decide (0 ≤ i ∧ i < (n : Int))) = false := by simp; omega
    rw [h2]
    go_enter Tryz.func153, Tryz.ntmps153
    go_wp2
    go_ret
    exact ⟨rfl, HB.out⟩
def bitAt (ws : List Nat) (i : Nat) : Bool := (ws.getD (i / 64) 0).testBit (i % 64)
theorem wordsV_get {ws : List Nat} {k : Nat} (h : k < ws.length) : (wordsV ws)[k]? = some (.int .u64 ((ws.getD k 0 : Nat) : Int)) := by
  unfold wordsV
  rw [List.getElem?_map, List.getElem?_eq_getElem h, List.getD_eq_getElem?_getD, List.getElem?_eq_getElem h]
  rfl
theorem mapC_word {n : Nat} {ws : List Nat} {k : Nat} (h : k < ws.length) : (mapC n ws)[1 + k]? = some (.int .u64 ((ws.getD k 0 : Nat) : Int)) := by
  rw [mapC, Nat.add_comm, List.getElem?_cons_succ]
  exact wordsV_get h
theorem test_bit_int (x k : Nat) (hx : x < 18446744073709551616) : (bits .and .u64 ((x : Int) / 2 ^ k) 1 == 1) = x.testBit k := by
  have e1 : (x : Int) / 2 ^ k = ((x / 2 ^ k : Nat) : Int) := by
    rw [Int.natCast_ediv, Int.natCast_pow]
    rfl
  have h2 : x / 2 ^ k < 18446744073709551616 := Nat.lt_of_le_of_lt (Nat.div_le_self _ _) hx
  have e2 := bits_and_u64_nat (x / 2 ^ k) 1 h2 (by decide)
  rw [e1]
  have e3 : ((1 : Nat) : Int) = 1 := rfl
  rw [e3] at e2
  rw [e2, Nat.and_one_is_mod, Nat.testBit_eq_decide_div_mod_eq]
  rw [Bool.eq_iff_iff, beq_iff_eq, decide_eq_true_eq]
  omega
theorem mapC_len {n : Nat} {ws : List Nat} (h : ws.length = 16) : (mapC n ws).length = 17 := by simp [mapC, wordsV, h]
theorem mapInfo {n : Nat} {ws : List Nat} (h : ws.length = 16) : (Tryz.prog.info? 194).map (·.size) = some (mapC n ws).length := by
  rw [mapC_len h]
  kernel_rfl
theorem Whole.range {w : World} {b : Nat} {t : TypeId} {cs : List Value} (h : Whole w b t cs) : w.rangeAt b 0 cs := fun j v hv => by rw [Nat.zero_add, h.cell]; exact hv
set_option maxHeartbeats 1000000 in
theorem bhas_any (n : Nat) (ws : List Nat) (i : Nat) (w : World) (h : MapOk n ws) (hi : i < n) :
    Calls Tryz.prog 154 #[mapV n ws, .int .i64 (i : Int)] w fun e w' => e = .returned (.bool (bitAt ws i)) ∧ Below w.heap.size w w' := by
  have HOn := fun w' => hide (on_any n ws (i : Int) w' h.len)
  have hon : decide (0 ≤ (i : Int) ∧ (i : Int) < (n : Int)) = true := by simp; omega
  rw [hon] at HOn
  have hw : Whole (w.alloc (.cells (mapC n ws).toArray 194)) w.heap.size _ _ := Whole.new w (mapC n ws) 194
  have hb : Below w.heap.size w (w.alloc (.cells (mapC n ws).toArray 194)) := (Below.refl _ _).alloc (Nat.le_refl _) _
  have HB := hide hb
  have hk : i / 64 < ws.length := by have := h.len; have := h.n1; omega
  have hc : (w.alloc (.cells (mapC n ws).toArray 194)).cell? ⟨w.heap.size, 1 + i / 64, none⟩ = _ := (hw.cell (1 + i / 64)).trans (mapC_word hk)
  have HWh := hide hw
  have hx : ws.getD (i / 64) 0 < 18446744073709551616 := by
    rw [List.getD_eq_getElem?_getD, List.getElem?_eq_getElem hk]
    exact h.lt _ (List.getElem_mem hk)
  have HT := hide (test_bit_int (ws.getD (i / 64) 0) (i % 64) hx)
  have hbit : bitAt ws i = (ws.getD (i / 64) 0).testBit (i % 64) := rfl
  rw [hbit]
  generalize (ws.getD (i / 64) 0).testBit (i % 64) = bb at *
  generalize ws.getD (i / 64) 0 = x at *
  have HI := hide (show i < 1024 by have := h.n1; omega)
  clear hw hb hbit hx
  have q0 : (i : Int) / 64 = ((i / 64 : Nat) : Int) := by omega
  have q1 : (i : Int) % 64 = ((i % 64 : Nat) : Int) := by omega
  have HR := hide HWh.out.range
  have HIn := hide (mapInfo (n := n) h.len)
  have hl1 : w.heap.size < (w.alloc (.cells (mapC n ws).toArray 194)).heap.size := HWh.out.lt
  clear h hi
  have hq16 : i / 64 < 16 := by have := HI.out; omega
  have hr64 : i % 64 < 64 := by omega
  generalize i / 64 = q at *
  generalize i % 64 = r at *
  unfold mapV at *
  go_enter Tryz.func154, Tryz.ntmps154
  go_upto_region 1 with fail
  generalize w.alloc (.cells (mapC n ws).toArray 194) = w1 at *
  go_wp2_with (refine wpList_load_mid rfl 194 _ rfl w.heap.size 0 rfl (mapC n ws) _ HR.out Tryz.underlying194 rfl HIn.out ?_)
  refine (HOn w1).out.mono ?_
  rintro e w2 ⟨rfl, hb⟩
  have HB2 := hide (HB.out.trans (hb.mono HB.out.size))
  have hc2 := (hb.cell (p := ⟨w.heap.size, 1 + q, none⟩) hl1).trans hc
  clear hb hc HB HWh HR HOn hl1
  have hT := HT.out
  have hI := HI.out
  go_wp2_with fail
  go_ret
  exact ⟨by rw [← hT]; rfl, HB2.out⟩
set_option maxHeartbeats 1000000 in
theorem bhas_off (n : Nat) (ws : List Nat) (i : Int) (w : World) (h : MapOk n ws) (hi : ¬ (0 ≤ i ∧ i < n)) :
    Calls Tryz.prog 154 #[mapV n ws, .int .i64 i] w fun e w' => e = .returned (.bool true) ∧ Below w.heap.size w w' := by
  have HOn := fun w' => hide (on_any n ws i w' h.len)
  have hon : decide (0 ≤ i ∧ i < (n : Int)) = false := by rw [decide_eq_false_iff_not]; exact hi
  rw [hon] at HOn
  have hw : Whole (w.alloc (.cells (mapC n ws).toArray 194)) w.heap.size _ _ := Whole.new w (mapC n ws) 194
  have hb : Below w.heap.size w (w.alloc (.cells (mapC n ws).toArray 194)) := (Below.refl _ _).alloc (Nat.le_refl _) _
  have HB := hide hb
  have HR := hide hw.range
  have HIn := hide (mapInfo (n := n) h.len)
  clear h hi hw hb hon
  unfold mapV at *
  go_enter Tryz.func154, Tryz.ntmps154
  go_upto_region 1 with fail
  generalize w.alloc (.cells (mapC n ws).toArray 194) = w1 at *
  go_wp2_with (refine wpList_load_mid rfl 194 _ rfl w.heap.size 0 rfl (mapC n ws) _ HR.out Tryz.underlying194 rfl HIn.out ?_)
  refine (HOn w1).out.mono ?_
  rintro e w2 ⟨rfl, hb⟩
  have HB2 := hide (HB.out.trans (hb.mono HB.out.size))
  clear hb HB HR HOn
  go_wp2_with fail
  go_ret
  exact ⟨rfl, HB2.out⟩
def zeroWs : List Nat := List.replicate 16 0
theorem MapOk.zero {n : Nat} (h0 : 1 ≤ n) (h1 : n ≤ 1024) : MapOk n zeroWs := ⟨rfl, fun x hx => by have := List.eq_of_mem_replicate hx; omega, h0, h1⟩
set_option maxHeartbeats 1000000 in
set_option maxRecDepth 20000 in
theorem bnew_any (n : Nat) (w : World) (h0 : 1 ≤ n) (h1 : n ≤ 1024) :
    Calls Tryz.prog 95 #[.int .i64 (n : Int)] w fun e w' => e = .returned (.tuple #[mapV n zeroWs, .int .i64 0]) ∧ Below w.heap.size w w' := by
  have d0 : decide ((n : Int) < 1) = false := by simp; omega
  have d1 : decide ((1024 : Int) < (n : Int)) = false := by simp; omega
  have hw : Whole (w.alloc (.cells (mapC n zeroWs).toArray 194)) w.heap.size _ _ := Whole.new w (mapC n zeroWs) 194
  have hb : Below w.heap.size w (w.alloc (.cells (mapC n zeroWs).toArray 194)) := (Below.refl _ _).alloc (Nat.le_refl _) _
  have HB := hide hb
  have HR := hide hw.range
  clear hw hb
  go_enter Tryz.func95, Tryz.ntmps95
  go_wp2_with fail
  exact bodyPost_ret (v := .tuple #[mapV n zeroWs, .int .i64 0]) (by simp [results, Tryz.results95, go_sem, mapV]; rfl) rfl ⟨rfl, HB.out⟩
set_option maxHeartbeats 1000000 in
set_option maxRecDepth 20000 in
theorem bnew_off (n : Int) (w : World) (h : n < 1 ∨ 1024 < n) :
    Calls Tryz.prog 95 #[.int .i64 n] w fun e w' => (∃ v, e = .returned (.tuple #[v, .int .i64 2])) ∧ Below w.heap.size w w' := by
  have hw : Whole (w.alloc (.cells (mapC 0 zeroWs).toArray 194)) w.heap.size _ _ := Whole.new w (mapC 0 zeroWs) 194
  have hb : Below w.heap.size w (w.alloc (.cells (mapC 0 zeroWs).toArray 194)) := (Below.refl _ _).alloc (Nat.le_refl _) _
  have HB := hide hb
  have HR := hide hw.range
  clear hw hb
  by_cases hn : n < 1
  · have d0 : decide (n < 1) = true := by simp [hn]
    clear h
    go_enter Tryz.func95, Tryz.ntmps95
    go_wp2_with fail
    exact bodyPost_ret (v := .tuple #[mapV 0 zeroWs, .int .i64 2]) (by simp [results, Tryz.results95, go_sem, mapV]; rfl) rfl ⟨⟨_, rfl⟩, HB.out⟩
  · have d0 : decide (n < 1) = false := by simp [hn]
    have d1 : decide ((1024 : Int) < n) = true := by simp; omega
    clear h
    go_enter Tryz.func95, Tryz.ntmps95
    go_wp2_with fail
    exact bodyPost_ret (v := .tuple #[mapV 0 zeroWs, .int .i64 2]) (by simp [results, Tryz.results95, go_sem, mapV]; rfl) rfl ⟨⟨_, rfl⟩, HB.out⟩
end Go.Proofs.YtnnfiicmplkakaaGreatDoor
