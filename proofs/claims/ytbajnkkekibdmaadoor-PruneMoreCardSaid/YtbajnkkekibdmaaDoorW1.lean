/- Walks of the small functions that read texts: count, Name (both), the document's Stamp. -/
import Derived.Test.YtbajnkkekibdmaaDoorProg
import Derived.Test.YtbajnkkekibdmaaDoorPlain
import Derived.Test.YtbajnkkekibdmaaDoorWords

namespace Go.Proofs.YtbajnkkekibdmaaDoor
open Go.RowKit

set_option maxHeartbeats 400000 in
theorem count_any (n : Int) (w : World) : Calls Tryd.prog 23 #[.int .i64 n] w fun e w' => e = .returned (.bool (Pl.cnt n)) ∧ w = w' := by
  by_cases h1 : 0 ≤ n
  · by_cases h2 : n ≤ 64
    · go_enter Tryd.func23, Tryd.ntmps23
      go_wp2
      go_ret
      exact ⟨by simp [Pl.cnt, h1, h2], rfl⟩
    · go_enter Tryd.func23, Tryd.ntmps23
      go_wp2
      go_ret
      exact ⟨by simp [Pl.cnt, h1, h2], rfl⟩
  · go_enter Tryd.func23, Tryd.ntmps23
    go_wp2
    go_ret
    exact ⟨by have : decide (0 ≤ n) = false := by simp; omega
              simp [Pl.cnt, this], rfl⟩

theorem slash : ((⟨#[47]⟩ : ByteArray)[0]'(by decide)).toNat = 47 := rfl
theorem name_bad (s : ByteArray) (k : Nat) (h : k < s.size) (hb : Pl.good s[k] = false) : Pl.name s.data.toList = false := by
  unfold Pl.name
  have : s.data.toList.all Pl.good = false := by
    rw [List.all_eq_false]
    exact ⟨s[k], by rw [← get_list s k h]; exact List.getElem_mem _, by simp [hb]⟩
  rw [this]; rfl
theorem name_good (s : ByteArray) (h : ∀ j (hj : j < s.size), Pl.good s[j] = true) : Pl.name s.data.toList = (decide (1 ≤ s.size) && decide (s.size ≤ 16)) := by
  unfold Pl.name
  have : s.data.toList.all Pl.good = true := by
    rw [List.all_eq_true]
    intro x hx
    obtain ⟨j, hj, rfl⟩ := List.getElem_of_mem hx
    exact h j (by rwa [size_list] at hj)
  rw [this, size_list]; rfl

set_option maxHeartbeats 400000 in
theorem refName_any (s : ByteArray) (w : World) (hs : s.size ≤ maxLen) : Calls Tryd.prog 28 #[.string s] w fun e w' => e = .returned (.bool (Pl.name s.data.toList)) ∧ w = w' := by
  unfold maxLen at hs
  go_enter Tryd.func28, Tryd.ntmps28
  go_wp2
  go_loop [3] (fun i => ∃ k : Nat, k ≤ s.size ∧ i = .int .i64 k ∧ ∀ j (hj : j < s.size), j < k → Pl.good s[j] = true) (fun i => s.size - (intOf i).toNat)
  case atStart => exact ⟨0, Nat.zero_le _, rfl, fun j _ h => absurd h (by omega)⟩
  case round =>
    obtain ⟨k, hk, rfl, hg⟩ := hrel
    have HG : Hid (∀ j (hj : j < s.size), j < k → Pl.good s[j] = true) := hg
    clear hg
    by_cases hlt : k < s.size
    · by_cases h47 : s[k].toNat = 47
      · have h47' : ((s[k].toNat : Int) == 47) = true := by simp [h47]
        have HB : Hid (Pl.good s[k] = false) := by show _ = _; simp [Pl.good, h47]
        clear h47
        go_wp2
        all_goals first | (go_ret; exact ⟨ret_bool (by rw [name_bad s k hlt HB.out]), rfl⟩) | (exfalso; simp at h47'; omega)
      · have h47' : ((s[k].toNat : Int) == 47) = false := by simp; omega
        go_wp2
        all_goals first
          | (go_ret; exact ⟨ret_bool (by rw [name_bad s k hlt (by simp [Pl.good]; omega)]), rfl⟩)
          | (go_round
             case rel =>
               refine ⟨k + 1, by omega, by go_num, fun j hj hjk => ?_⟩
               by_cases e : j = k
               · subst e; simp [Pl.good]; omega
               · exact HG.out j hj (by omega)
             case measure => simp [intOf]; omega)
    · have hall : ∀ j (hj : j < s.size), Pl.good s[j] = true := fun j hj => HG.out j hj (by omega)
      have HN := name_good s hall
      have HN' : Hid (Pl.name s.data.toList = (decide (1 ≤ s.size) && decide (s.size ≤ 16))) := HN
      clear HN hall
      by_cases h0 : 0 < s.size
      · by_cases h17 : s.size < 17
        · go_wp2
          go_ret
          refine ⟨ret_bool (HN'.out.trans ?_).symm, rfl⟩
          rw [Bool.eq_iff_iff]; simp; omega
        · go_wp2
          go_ret
          refine ⟨ret_bool (HN'.out.trans ?_).symm, rfl⟩
          rw [Bool.eq_iff_iff]; simp; omega
      · go_wp2
        go_ret
        exact ⟨ret_bool (by rw [HN'.out]; simp; omega), rfl⟩

set_option maxHeartbeats 400000 in
theorem good_any (c : UInt8) (w : World) : Calls Tryd.prog 43 #[.int .u8 c.toNat] w fun e w' => e = .returned (.bool (Pl.good c)) ∧ w = w' := by
  by_cases h1 : 33 ≤ c.toNat
  · by_cases h2 : c.toNat ≤ 126
    · by_cases h3 : c.toNat = 47
      · have h4 : ((c.toNat : Int) == 47) = true := by simp [h3]
        have h4' : ((c.toNat : Int) != 47) = false := by simp [h3]
        have H3 : Hid (c.toNat = 47) := h3
        clear h3
        go_enter Tryd.func43, Tryd.ntmps43
        go_wp2
        go_ret
        exact ⟨ret_bool (by simp [Pl.good, H3.out, slash]), rfl⟩
      · have h4 : ((c.toNat : Int) == 47) = false := by simp; omega
        have h4' : ((c.toNat : Int) != 47) = true := by simp; omega
        go_enter Tryd.func43, Tryd.ntmps43
        go_wp2
        go_ret
        refine ⟨ret_bool ?_, rfl⟩
        have e : (c.toNat == 47) = false := by simp [h3]
        simp only [Pl.good, slash, e]
        simp [h1, h2, h4']
    · go_enter Tryd.func43, Tryd.ntmps43
      go_wp2
      go_ret
      exact ⟨ret_bool (by simp [Pl.good]; omega), rfl⟩
  · go_enter Tryd.func43, Tryd.ntmps43
    go_wp2
    go_ret
    exact ⟨ret_bool (by simp [Pl.good]; omega), rfl⟩

set_option maxHeartbeats 400000 in
theorem pathName_any (s : ByteArray) (w : World) (hs : s.size ≤ maxLen) : Calls Tryd.prog 27 #[.string s] w fun e w' => e = .returned (.bool (Pl.name s.data.toList)) ∧ w = w' := by
  unfold maxLen at hs
  go_enter Tryd.func27, Tryd.ntmps27
  go_wp2
  go_loop [7] (fun i => ∃ k : Nat, k ≤ s.size ∧ i = .int .i64 k ∧ ∀ j (hj : j < s.size), j < k → Pl.good s[j] = true) (fun i => s.size - (intOf i).toNat)
  case atStart => exact ⟨0, Nat.zero_le _, rfl, fun j _ h => absurd h (by omega)⟩
  case round =>
    obtain ⟨k, hk, rfl, hg⟩ := hrel
    have HG : Hid (∀ j (hj : j < s.size), j < k → Pl.good s[j] = true) := hg
    clear hg
    by_cases hlt : k < s.size
    · have hgood := good_any s[k] w
      generalize hb : Pl.good s[k] = b at hgood
      have HB : Hid (Pl.good s[k] = b) := hb
      clear hb
      have HC := hide hgood
      clear hgood
      cases b
      · go_wp2_with (go_at_call 43; refine HC.out.mono ?_; rintro e w' ⟨rfl, rfl⟩)
        go_ret
        exact ⟨ret_bool (by rw [name_bad s k hlt HB.out]), rfl⟩
      · go_wp2_with (go_at_call 43; refine HC.out.mono ?_; rintro e w' ⟨rfl, rfl⟩)
        go_round
        case rel =>
          refine ⟨k + 1, by omega, by go_num, fun j hj hjk => ?_⟩
          by_cases e : j = k
          · subst e; exact HB.out
          · exact HG.out j hj (by omega)
        case measure => simp [intOf]; omega
    · have hall : ∀ j (hj : j < s.size), Pl.good s[j] = true := fun j hj => HG.out j hj (by omega)
      have HN := name_good s hall
      have HN' : Hid (Pl.name s.data.toList = (decide (1 ≤ s.size) && decide (s.size ≤ 16))) := HN
      clear HN hall
      by_cases h0 : 0 < s.size
      · by_cases h17 : s.size ≤ 16
        · go_wp2
          go_ret
          refine ⟨ret_bool (HN'.out.trans ?_).symm, rfl⟩
          rw [Bool.eq_iff_iff]; simp; omega
        · go_wp2
          go_ret
          refine ⟨ret_bool (HN'.out.trans ?_).symm, rfl⟩
          rw [Bool.eq_iff_iff]; simp; omega
      · go_wp2
        go_ret
        exact ⟨ret_bool (by rw [HN'.out]; simp; omega), rfl⟩

end Go.Proofs.YtbajnkkekibdmaaDoor
