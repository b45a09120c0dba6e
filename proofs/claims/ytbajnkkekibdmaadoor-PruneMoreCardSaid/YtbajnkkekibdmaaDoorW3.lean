/- Walks of slices.Index and Contains over texts. -/
import Derived.Test.YtbajnkkekibdmaaDoorW1
namespace Go.Proofs.YtbajnkkekibdmaaDoor
open Go.RowKit

/-- texts as lists of bytes -/
def bss (ss : List ByteArray) : List Pl.Bs := ss.map fun s => s.data.toList

theorem strs_len (ss : List ByteArray) : (strs ss).length = ss.length := by simp [strs]
theorem strs_get (ss : List ByteArray) (i : Nat) (h : i < ss.length) : (strs ss)[i]'(by rw [strs_len]; exact h) = .string ss[i] := by simp [strs]
theorem beq_lists (a b : ByteArray) : (a.toList == b.toList) = decide (a.data.toList = b.data.toList) := by
  rw [toList_eq, toList_eq, Bool.eq_iff_iff]; simp
theorem bss_get (ss : List ByteArray) (i : Nat) (h : i < ss.length) : (bss ss)[i]'(by simp [bss]; exact h) = ss[i].data.toList := by simp [bss]
theorem bss_mem {ss : List ByteArray} {x : Pl.Bs} (h : x ∈ bss ss) : ∃ i, ∃ hi : i < ss.length, ss[i].data.toList = x := by
  obtain ⟨i, hi, rfl⟩ := List.getElem_of_mem h
  have hi' : i < ss.length := by simpa [bss] using hi
  exact ⟨i, hi', (bss_get ss i hi').symm⟩
theorem mem_bss {ss : List ByteArray} (i : Nat) (h : i < ss.length) : ss[i].data.toList ∈ bss ss := by
  rw [← bss_get ss i h]; exact List.getElem_mem _

set_option maxHeartbeats 400000 in
theorem index_any (A : Option Addr) (cap : Nat) (ss : List ByteArray) (v : ByteArray) (B : Nat) (w : World) (hm : Mem w B A (strs ss)) (hn : ss.length ≤ 9223372036854775807) :
    Calls Tryd.prog 33 #[.slice A ss.length cap, .string v] w (Found w (v.data.toList ∈ bss ss)) := by
  have HM := hide hm
  clear hm
  go_enter Tryd.func33, Tryd.ntmps33
  go_wp2
  go_loop [5, 8] (fun _ i => ∃ k : Nat, k ≤ ss.length ∧ i = .int .i64 k ∧ ∀ j (hj : j < ss.length), j < k → ss[j].data.toList ≠ v.data.toList) (fun _ i => ss.length - (intOf i).toNat)
  case atStart => exact ⟨0, Nat.zero_le _, rfl, fun j _ h => absurd h (by omega)⟩
  case round =>
    obtain ⟨k, hk, rfl, hg⟩ := hrel
    have HG := hide hg
    clear hg
    by_cases hlt : k < ss.length
    · obtain ⟨b, off, rfl, _, hc⟩ := HM.out.get (by rw [strs_len]; omega)
      have hck := hc k (by rw [strs_len]; exact hlt)
      rw [strs_get ss k hlt] at hck
      clear hc
      have hb := beq_lists v ss[k]
      by_cases he : v.data.toList = ss[k].data.toList
      · rw [decide_eq_true he] at hb
        have HE := hide he
        clear he
        go_wp2
        go_ret
        refine ⟨k, rfl, by omega, ?_, rfl⟩
        constructor
        · intro _; rw [HE.out]; exact mem_bss k hlt
        · intro _; omega
      · rw [decide_eq_false he] at hb
        have HE := hide he
        clear he
        go_wp2
        go_round
        case rel =>
          refine ⟨k + 1, by omega, by go_num, fun j hj hjk => ?_⟩
          by_cases e : j = k
          · subst e; exact fun h => HE.out h.symm
          · exact HG.out j hj (by omega)
        case measure => simp [intOf]; omega
    · go_wp2
      go_ret
      refine ⟨-1, rfl, by omega, ?_, rfl⟩
      constructor
      · intro h; omega
      · intro h
        obtain ⟨i, hi, e⟩ := bss_mem h
        exact absurd e (HG.out i hi (by omega))

set_option maxHeartbeats 400000 in
theorem contains_any (A : Option Addr) (cap : Nat) (ss : List ByteArray) (v : ByteArray) (B : Nat) (w : World) (hm : Mem w B A (strs ss)) (hn : ss.length ≤ 9223372036854775807) :
    Calls Tryd.prog 18 #[.slice A ss.length cap, .string v] w fun e w' => e = .returned (.bool ((bss ss).contains v.data.toList)) ∧ w = w' := by
  have HI := hide (index_any A cap ss v B w hm hn)
  clear hm
  go_enter Tryd.func18, Tryd.ntmps18
  go_wp2_with (go_at_call 33; refine HI.out.mono ?_; rintro e w' ⟨r, rfl, h1, h2, rfl⟩; have H2 := hide h2; clear h2)
  go_ret
  refine ⟨ret_bool ?_, rfl⟩
  rw [Bool.eq_iff_iff]
  have := H2.out
  simp
  exact this
end Go.Proofs.YtbajnkkekibdmaaDoor
