/- The walk of great. -/
import Derived.Test.YtbajnkkekibdmaaDoorW19
namespace Go.Proofs.YtbajnkkekibdmaaDoor
open Go.RowKit Go.Shelf Go.Lib

/-- what great says -/
def GreatRes (ss : List ByteArray) (p : Po) (w : World) (e : Ending) (w' : World) : Prop :=
  ∃ b : Bool, e = .returned (.bool b) ∧ Below w.heap.size w w' ∧ (b = false → ss.length ≤ 300 ∧ p.rs.length ≤ 40 ∧ p.ps.length ≤ 40)

set_option maxHeartbeats 2000000 in
set_option maxRecDepth 100000 in
theorem great_any (p : Po) (RA PA : Option Addr) (rc pc : Nat) (A : Option Addr) (cap : Nat) (ss : List ByteArray) (w : World) (hp : PoAt w w.heap.size p RA PA) (hm : Mem w w.heap.size A (strs ss)) (hl : ss.length ≤ maxLen) (hs : ∀ s ∈ ss, s.size ≤ maxLen) :
    Calls Tryd.prog 6 #[.slice A ss.length cap, .agg #[.int .i64 p.last, .slice RA p.rs.length rc, .slice PA p.ps.length pc]] w (GreatRes ss p w) := by
  obtain ⟨i0, hi, hz0, hz1, hz2⟩ := info_parts infoStr
  have hB0 : ∀ o, Below w.heap.size w (w.alloc o) := fun o => (Below.refl _ _).alloc (Nat.le_refl _) o
  have HB := hide hB0
  have HMem := hide hm
  have HP := hide hp
  have hrl := hp.rlen
  have hpl := hp.plen
  unfold maxLen at hl
  have HS := hide (show ∀ s ∈ ss ++ p.ps, s.size ≤ 9223372036854775807 from fun s h => (List.mem_append.1 h).elim (hs s) (hp.texts s))
  clear hp hm hB0 hs
  by_cases h1 : 300 < ss.length
  · go_enter Tryd.func6, Tryd.ntmps6
    go_wp2
    go_ret
    exact ⟨true, rfl, HB.out _, by simp⟩
  by_cases h2 : 40 < p.rs.length
  · go_enter Tryd.func6, Tryd.ntmps6
    go_wp2
    go_ret
    exact ⟨true, rfl, HB.out _, by simp⟩
  by_cases h3 : 40 < p.ps.length
  · go_enter Tryd.func6, Tryd.ntmps6
    go_wp2
    go_ret
    exact ⟨true, rfl, HB.out _, by simp⟩
  have HC := hide (show ss.length ≤ 300 ∧ p.rs.length ≤ 40 ∧ p.ps.length ≤ 40 from ⟨by omega, by omega, by omega⟩)
  go_enter Tryd.func6, Tryd.ntmps6
  go_wp2_with fail
  have hw1 := Whole.new w [.int .i64 p.last, .slice RA p.rs.length rc, .slice PA p.ps.length pc] 25
  have cP := hw1.cell 2
  have HMw := hide ((HMem.out.below (HB.out (.cells #[.int .i64 p.last, .slice RA p.rs.length rc, .slice PA p.ps.length pc] 25))).mono (by simp : w.heap.size ≤ (w.alloc (.cells #[.int .i64 p.last, .slice RA p.rs.length rc, .slice PA p.ps.length pc] 25)).heap.size))
  have HPw := hide ((HP.out.pins.below (HB.out (.cells #[.int .i64 p.last, .slice RA p.rs.length rc, .slice PA p.ps.length pc] 25))).mono (by simp : w.heap.size ≤ (w.alloc (.cells #[.int .i64 p.last, .slice RA p.rs.length rc, .slice PA p.ps.length pc] 25)).heap.size))
  have hsz : w.heap.size < (w.alloc (.cells #[.int .i64 p.last, .slice RA p.rs.length rc, .slice PA p.ps.length pc] 25)).heap.size := by simp
  have HBw := hide (HB.out (.cells #[.int .i64 p.last, .slice RA p.rs.length rc, .slice PA p.ps.length pc] 25))
  change (w.alloc (.cells #[.int .i64 p.last, .slice RA p.rs.length rc, .slice PA p.ps.length pc] 25)).cell? ⟨w.heap.size, 2, none⟩ = _ at cP
  generalize w.alloc (.cells #[.int .i64 p.last, .slice RA p.rs.length rc, .slice PA p.ps.length pc] 25) = w1 at *
  clear hw1
  have hz0w : w1.drew.heap.size = w1.heap.size := rfl
  go_region_held3 (fun w' => w'.cell? ⟨w.heap.size, 2, none⟩ = some (.slice PA p.ps.length pc)) (first | exact cP | exact (hb3.cell (p := ⟨w.heap.size, 2, none⟩) hsz).trans cP | exact (hb2.cell (p := ⟨w.heap.size, 2, none⟩) hsz).trans cP)
    (first | (refine step_app _ (by rfl) _ _ _ (by rfl) w1.heap.size 9 i0 (.string ByteArray.empty) 1 16 Tryd.underlying22 hi hz0 hz1 hz2 rfl (by decide) (.slice none 0 0) 0 [] (by rfl) ⟨rfl, .inl ⟨rfl, rfl⟩⟩ A ss.length cap (strs ss) (by rfl) (by rw [strs_len]; omega) HMw.out (strs_one _) (by unfold maxLen; omega) (by omega) (Nat.le_refl _) ?_; intro A2 q2 w2 hown2 hg2; have hb2 : Below w1.heap.size w1 w2 := ((Below.refl _ w1).drew).grown hg2 (Nat.le_refl _) (fun g hg => by cases hg)) | (refine step_app _ (by rfl) _ _ _ (by rfl) w1.heap.size 9 i0 (.string ByteArray.empty) 1 16 Tryd.underlying22 hi hz0 hz1 hz2 rfl (by decide) (.slice A2 (0 + ss.length) q2) (0 + ss.length) ([] ++ strs ss) (by rfl) hown2 PA p.ps.length pc (strs p.ps) (by rfl) (by rw [strs_len]; omega) ((HPw.out.below hb2).mono hb2.size) (strs_one _) (by unfold maxLen; omega) (by omega) hb2.size ?_; intro A3 q3 w3 hown3 hg3; have hb3 : Below w1.heap.size w1 w3 := hb2.grown hg3 hb2.size (fun g hg => (hown2.lt g hg).1)))
  have e0 : [] ++ strs ss ++ strs p.ps = strs (ss ++ p.ps) := by rw [strs_app]; rfl
  have e1 : (0 + ss.length + p.ps.length) = (ss ++ p.ps).length := by rw [List.length_append]; omega
  rw [e0, e1] at hown3
  obtain ⟨A4, q4, e4, hm4⟩ := owns_strs hown3
  injection e4 with e4 _ e5
  subst e4 e5
  have hal : (ss ++ p.ps).length ≤ 340 := by rw [List.length_append]; omega
  have HM4 := hide hm4
  have HB3 := hide (HBw.out.trans (hb3.mono (Nat.le_of_lt hsz)))
  have e2 : ss.length + p.ps.length = (ss ++ p.ps).length := by rw [List.length_append]
  simp only [Nat.zero_add]
  rw [e2]
  clear e2 hown2 hown3 hg2 hg3 hm4 e0 e1 hb2 hb3 cP hz0w
  generalize ss ++ p.ps = al at *
  go_wp2_with fail
  go_loop [6] (fun i => ∃ k : Nat, k ≤ al.length ∧ i = .int .i64 k) (fun i => al.length - (intOf i).toNat)
  case atStart => exact ⟨0, Nat.zero_le _, rfl⟩
  case round =>
    obtain ⟨k, hk, rfl⟩ := hrel
    by_cases hlt : k < al.length
    · obtain ⟨b, off, rfl, hb, hc⟩ := name_at HM4.out hlt
      have hck := hc k hlt
      clear hc
      have hz9 := HS.out _ (List.getElem_mem hlt)
      by_cases hbig : 100 < al[k].size
      · go_wp2
        go_ret
        exact ⟨true, rfl, HB3.out, by simp⟩
      · go_wp2
        go_round
        case rel => exact ⟨k + 1, by omega, by go_num⟩
        case measure => simp [intOf]; omega
    · go_wp2
      go_ret
      exact ⟨false, rfl, HB3.out, fun _ => HC.out⟩
end Go.Proofs.YtbajnkkekibdmaaDoor
