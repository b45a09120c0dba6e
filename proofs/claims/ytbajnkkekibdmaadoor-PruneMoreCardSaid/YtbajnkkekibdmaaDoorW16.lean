/- Walks of the statements' own small functions: row, kept. -/
import Derived.Test.YtbajnkkekibdmaaDoorW15
namespace Go.Proofs.YtbajnkkekibdmaaDoor
open Go.RowKit Go.Shelf Go.Lib

theorem bool_at {w : World} {B : Nat} {A : Option Addr} {l : List Bool} (h : Mem w B A (bools l)) {k : Nat} (hk : k < l.length) : ∃ b off, A = some ⟨b, off, none⟩ ∧ b < B ∧ ∀ j (hj : j < l.length), w.cell? ⟨b, off + j, none⟩ = some (.bool l[j]) := by
  obtain ⟨b, off, e, hb, hc⟩ := h.get (by rw [bools_len]; omega)
  refine ⟨b, off, e, hb, fun j hj => ?_⟩
  rw [hc j (by rw [bools_len]; exact hj)]
  simp [bools]

set_option maxHeartbeats 1000000 in
set_option maxRecDepth 100000 in
theorem row_any (A1 A2 : Option Addr) (c1 c2 : Nat) (l1 l2 : List Bool) (w : World) (h1 : Mem w w.heap.size A1 (bools l1)) (h2 : Mem w w.heap.size A2 (bools l2)) (hl1 : l1.length ≤ 1000) (hl2 : l2.length ≤ 1000) :
    Calls Tryd.prog 15 #[.slice A1 l1.length c1, .slice A2 l2.length c2] w fun e w' => e = .returned (.bool (decide (l1 = l2))) ∧ ∃ n, w' = w.drewN n := by
  have H1 := hide h1
  have H2 := hide h2
  clear h1 h2
  by_cases hl : l1.length = l2.length
  · go_enter Tryd.func15, Tryd.ntmps15
    have hlb : ((l1.length : Int) != (l2.length : Int)) = false := by simp; omega
    go_wp2_with fail
    go_loopw [5] (fun i wr => ∃ k : Nat, k ≤ l1.length ∧ i = .int .i64 k ∧ l1.take k = l2.take k ∧ ∃ q, wr = w.drewN q) (fun i _ => l1.length - (intOf i).toNat)
    case atStart => exact ⟨0, Nat.zero_le _, rfl, by simp, 0, rfl⟩
    case round =>
      obtain ⟨k, hk, rfl, he, q, rfl⟩ := hrel
      have HE := hide he
      clear he
      by_cases hlt : k < l1.length
      · obtain ⟨b1, o1, rfl, hb1, hc1⟩ := bool_at H1.out hlt
        have hlt2 : k < l2.length := by omega
        obtain ⟨b2, o2, rfl, hb2, hc2⟩ := bool_at H2.out hlt2
        have f1 := hc1 k hlt
        have f2 := hc2 k hlt2
        have t1 : l1.take (k + 1) = l1.take k ++ [l1[k]] := by rw [List.take_succ_eq_append_getElem hlt]
        have t2 : l2.take (k + 1) = l2.take k ++ [l2[k]] := by rw [List.take_succ_eq_append_getElem hlt2]
        clear hc1 hc2
        have HT1 := hide t1
        have HT2 := hide t2
        clear t1 t2
        generalize hx : l1[k] = x at *
        generalize hy : l2[k] = y at *
        have HXY := hide (show x ≠ y → l1 ≠ l2 from fun hne h => hne (by subst h; exact hx.symm.trans hy))
        clear hx hy
        cases x <;> cases y
        · go_wp2_with fail
          go_quiet (fail)
          go_wp2_with fail
          go_roundw
          case rel => exact ⟨k + 1, by omega, by go_num, by rw [HT1.out, HT2.out, HE.out], _, by first | rfl | exact World.drewN_drewN ..⟩
          case measure => simp [intOf]; omega
        · go_wp2_with fail
          go_quiet (fail)
          go_wp2_with fail
          go_ret
          exact ⟨by rw [decide_eq_false (HXY.out (by decide))]; rfl, _, by first | rfl | exact World.drewN_drewN ..⟩
        · go_wp2_with fail
          go_quiet (fail)
          go_wp2_with fail
          go_ret
          exact ⟨by rw [decide_eq_false (HXY.out (by decide))]; rfl, _, by first | rfl | exact World.drewN_drewN ..⟩
        · go_wp2_with fail
          go_quiet (fail)
          go_wp2_with fail
          go_roundw
          case rel => exact ⟨k + 1, by omega, by go_num, by rw [HT1.out, HT2.out, HE.out], _, by first | rfl | exact World.drewN_drewN ..⟩
          case measure => simp [intOf]; omega
      · go_wp2
        go_ret
        have hk' : k = l1.length := by omega
        have he := HE.out
        rw [hk', List.take_length, hl, List.take_length] at he
        exact ⟨by rw [decide_eq_true he]; rfl, _, rfl⟩
  · have hlb : ((l1.length : Int) != (l2.length : Int)) = true := by simp; omega
    have hne : l1 ≠ l2 := fun h => hl (by rw [h])
    have HNe := hide hne
    clear hne hl
    go_enter Tryd.func15, Tryd.ntmps15
    go_wp2
    go_ret
    exact ⟨by rw [decide_eq_false HNe.out]; rfl, 0, rfl⟩

/-- the names that are kept -/
def pickN (ss : List ByteArray) (l : List Bool) : List ByteArray := ((ss.zip l).filter fun x => x.2).map (·.1)
def pickTo (ss : List ByteArray) (l : List Bool) (k : Nat) : List ByteArray := pickN (ss.take k) (l.take k)
theorem pickTo_step (ss : List ByteArray) (l : List Bool) (k : Nat) (h : k < ss.length) (h2 : k < l.length) : pickTo ss l (k + 1) = pickTo ss l k ++ (if l[k] = true then [ss[k]] else []) := by
  unfold pickTo pickN
  rw [List.take_succ_eq_append_getElem h, List.take_succ_eq_append_getElem h2, List.zip_append (by simp; omega), List.filter_append, List.map_append]
  congr 1
  cases l[k] <;> simp
theorem pickTo_le (ss : List ByteArray) (l : List Bool) (k : Nat) : (pickTo ss l k).length ≤ k := by
  unfold pickTo pickN
  rw [List.length_map]
  have h1 := List.length_filter_le (fun x : ByteArray × Bool => x.2) ((ss.take k).zip (l.take k))
  have h2 : ((ss.take k).zip (l.take k)).length ≤ k := by rw [List.length_zip]; have := List.length_take_le k ss; omega
  omega

/-- Keep, whatever the policy and the names -/
theorem keep_any (p : Po) (RA PA : Option Addr) (rc pc : Nat) (A : Option Addr) (cap : Nat) (ss : List ByteArray) (w : World) (hp : PoAt w w.heap.size p RA PA)
    (hm : Mem w w.heap.size A (strs ss)) (hs : ∀ s ∈ ss, s.size ≤ maxLen) (hsp : ∀ r ∈ p.rs, 0 ≤ r.1 ∧ r.1 < 4294967296) :
    Calls Tryd.prog 10 #[.slice A ss.length cap, .agg #[.int .i64 p.last, .slice RA p.rs.length rc, .slice PA p.ps.length pc]] w (KeepRes ss p w) := by
  cases h : Pl.may p.pol
  · exact keep_bad p RA PA rc pc A cap ss w hp h
  · by_cases hl : 256 < ss.length
    · exact keep_long p RA PA rc pc A cap ss w hp h hl
    · exact keep_main p RA PA rc pc A cap ss w hp hm hs h (by omega) hsp
theorem refKeep_any (p : Po) (RA PA : Option Addr) (rc pc : Nat) (A : Option Addr) (cap : Nat) (ss : List ByteArray) (w : World) (hp : PoAt w w.heap.size p RA PA)
    (hm : Mem w w.heap.size A (strs ss)) (hs : ∀ s ∈ ss, s.size ≤ maxLen) (hsp : ∀ r ∈ p.rs, 0 ≤ r.1 ∧ r.1 < 4294967296) :
    Calls Tryd.prog 12 #[.slice A ss.length cap, .agg #[.int .i64 p.last, .slice RA p.rs.length rc, .slice PA p.ps.length pc]] w (KeepRes ss p w) := by
  cases h : Pl.may p.pol
  · exact refKeep_bad p RA PA rc pc A cap ss w hp h
  · by_cases hl : 256 < ss.length
    · exact refKeep_long p RA PA rc pc A cap ss w hp h hl
    · exact refKeep_main p RA PA rc pc A cap ss w hp h (by omega) hm hs hsp
end Go.Proofs.YtbajnkkekibdmaaDoor
