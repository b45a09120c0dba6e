/- Walks of the two Stamps. -/
import Derived.Test.YtbajnkkekibdmaaDoorW1
namespace Go.Proofs.YtbajnkkekibdmaaDoor
open Go.RowKit

/-! ### the document's Stamp -/
theorem digs_of (s : List UInt8) (k : Nat) (hk : k ≤ s.length) (h1 : ∀ j (hj : j < s.length), k ≤ j → Pl.dig s[j] = true) (h2 : ∀ h : 0 < k, Pl.dig (s[k - 1]'(by omega)) = false) : Pl.digs s = s.drop k := by
  unfold Pl.digs
  have e : s = s.take k ++ s.drop k := (List.take_append_drop k s).symm
  have e2 : s.reverse = (s.drop k).reverse ++ (s.take k).reverse := by rw [← List.reverse_append, ← e]
  rw [e2, List.takeWhile_append_of_pos]
  · have e3 : (s.take k).reverse.takeWhile Pl.dig = [] := by
      rcases Nat.eq_zero_or_pos k with h0 | h0
      · subst h0; simp
      · have : s.take k = s.take (k - 1) ++ [s[k - 1]'(by omega)] := by
          conv => lhs; rw [show k = (k - 1) + 1 from by omega]
          rw [List.take_succ_eq_append_getElem (by omega)]
        rw [this, List.reverse_append]
        simp [h2 h0]
    rw [e3]; simp
  · intro a ha
    rw [List.mem_reverse] at ha
    obtain ⟨j, hj, rfl⟩ := List.getElem_of_mem ha
    rw [List.getElem_drop]
    exact h1 _ (by simp at hj; omega) (by omega)

theorem num_snoc (l : List UInt8) (c : UInt8) : Pl.num (l ++ [c]) = 10 * Pl.num l + (c.toNat - 48) := by simp [Pl.num]
theorem num_lt (l : List UInt8) (h : ∀ c ∈ l, Pl.dig c = true) : Pl.num l < 10 ^ l.length := by
  generalize hn : l.length = n
  induction n generalizing l with
  | zero => rw [List.eq_nil_of_length_eq_zero hn]; simp [Pl.num]
  | succ n ih =>
    have hne : l ≠ [] := by intro e; subst e; simp at hn
    have e : l = l.dropLast ++ [l.getLast hne] := (List.dropLast_concat_getLast hne).symm
    have h1 := ih l.dropLast (fun c hc => h c (List.dropLast_subset l hc)) (by simp [hn])
    have h2 : Pl.dig (l.getLast hne) = true := h _ (List.getLast_mem hne)
    rw [e, num_snoc]
    have h3 : (l.getLast hne).toNat ≤ 57 := by simp [Pl.dig] at h2; omega
    have : 10 ^ (n + 1) = 10 * 10 ^ n := by rw [Nat.pow_succ, Nat.mul_comm]
    omega

theorem has_drop {s : ByteArray} {k : Nat} (h : Pl.digs s.data.toList = s.data.toList.drop k) (hk : k ≤ s.size) : Pl.has s.data.toList = (decide (k < s.size) && decide (s.size - k ≤ 9)) := by
  unfold Pl.has
  rw [h, List.length_drop, size_list, Bool.eq_iff_iff]
  simp
  omega
theorem st_none {s : List UInt8} (h : Pl.has s = false) : Pl.st s = 0 := by simp [Pl.st, h]
theorem st_some {s : List UInt8} (h : Pl.has s = true) : Pl.st s = Pl.num (Pl.digs s) := by simp [Pl.st, h]
theorem ret_stamp {a b : Int} {c d : Bool} (h1 : a = b) (h2 : c = d) : Ending.returned (.tuple #[.int .u32 a, .bool c]) = .returned (.tuple #[.int .u32 b, .bool d]) := by rw [h1, h2]
/-- so far from place k on -/
def numTo (s : ByteArray) (k i : Nat) : Nat := Pl.num ((s.data.toList.drop k).take (i - k))
theorem numTo_start (s : ByteArray) (k : Nat) : numTo s k k = 0 := by simp [numTo, Pl.num]
theorem numTo_step (s : ByteArray) (k i : Nat) (hk : k ≤ i) (hi : i < s.size) : numTo s k (i + 1) = 10 * numTo s k i + (s[i].toNat - 48) := by
  unfold numTo
  have e : i + 1 - k = (i - k) + 1 := by omega
  have hl : i - k < (s.data.toList.drop k).length := by rw [List.length_drop, size_list]; omega
  have hx : (s.data.toList.drop k)[i - k] = s[i] := by
    rw [List.getElem_drop]
    have : k + (i - k) = i := by omega
    simp only [this]
    rfl
  rw [e, List.take_succ_eq_append_getElem hl, num_snoc, hx]
theorem numTo_end (s : ByteArray) (k : Nat) : numTo s k s.size = Pl.num (s.data.toList.drop k) := by
  unfold numTo
  rw [List.take_of_length_le (by rw [List.length_drop, size_list]; omega)]
theorem pow_le9 {n : Nat} (h : n ≤ 9) : 10 ^ n ≤ 1000000000 := by
  have : 10 ^ n ≤ 10 ^ 9 := Nat.pow_le_pow_right (by omega) h
  exact this
theorem numTo_lt (s : ByteArray) (k i : Nat) (h9 : s.size - k ≤ 9) (h : ∀ j (hj : j < s.size), k ≤ j → Pl.dig s[j] = true) : numTo s k i < 1000000000 := by
  unfold numTo
  refine Nat.lt_of_lt_of_le (num_lt _ fun c hc => ?_) (pow_le9 ?_)
  · have := List.mem_of_mem_take hc
    obtain ⟨j, hj, rfl⟩ := List.getElem_of_mem this
    rw [List.getElem_drop]
    rw [List.length_drop, size_list] at hj
    exact h (k + j) (by omega) (by omega)
  · rw [List.length_take, List.length_drop, size_list]; omega

set_option maxHeartbeats 1000000 in
theorem refStamp_any (s : ByteArray) (w : World) (hs : s.size ≤ maxLen) : Calls Tryd.prog 9 #[.string s] w fun e w' => e = .returned (.tuple #[.int .u32 (Pl.st s.data.toList), .bool (Pl.has s.data.toList)]) ∧ w = w' := by
  unfold maxLen at hs
  go_enter Tryd.func9, Tryd.ntmps9
  go_wp2
  go_loop [4] (fun i => ∃ k : Nat, k ≤ s.size ∧ i = .int .i64 k ∧ ∀ j (hj : j < s.size), k ≤ j → Pl.dig s[j] = true) (fun i => (intOf i).toNat)
  case atStart => exact ⟨s.size, Nat.le_refl _, rfl, fun j h1 h2 => absurd h1 (by omega)⟩
  case round =>
    obtain ⟨k, hk, rfl, hg⟩ := hrel
    have HG := hide hg
    clear hg
    by_cases hx : ∃ (m : Nat) (hm : m < s.size), k = m + 1 ∧ 48 ≤ s[m].toNat ∧ s[m].toNat ≤ 57
    · obtain ⟨m, hm, rfl, h1, h2⟩ := hx
      go_wp2
      go_round
      case rel =>
        refine ⟨m, by omega, rfl, fun j hj hjm => ?_⟩
        by_cases e : j = m
        · subst e; simp [Pl.dig, h1, h2]
        · exact HG.out j hj (by omega)
      case measure => simp [intOf]
    · have hx2 : k = 0 ∨ (∃ (m : Nat) (hm : m < s.size), k = m + 1 ∧ s[m].toNat < 48) ∨ (∃ (m : Nat) (hm : m < s.size), k = m + 1 ∧ 48 ≤ s[m].toNat ∧ 57 < s[m].toNat) := by
        rcases Nat.eq_zero_or_pos k with h0 | h0
        · exact .inl h0
        · obtain ⟨m, rfl⟩ : ∃ m, k = m + 1 := ⟨k - 1, by omega⟩
          by_cases h1 : s[m].toNat < 48
          · exact .inr (.inl ⟨m, by omega, rfl, h1⟩)
          · refine .inr (.inr ⟨m, by omega, rfl, by omega, ?_⟩)
            rcases Nat.lt_or_ge 57 s[m].toNat with h2 | h2
            · exact h2
            · exact absurd ⟨m, by omega, rfl, by omega, h2⟩ hx
      have hd : Pl.digs s.data.toList = s.data.toList.drop k := digs_of _ _ (by rw [size_list]; omega) (fun j hj hk => HG.out j (by rwa [size_list] at hj) hk) (fun h0 => by
        rcases hx2 with h | ⟨m, hm, rfl, h⟩ | ⟨m, hm, rfl, h, h'⟩
        · omega
        · show Pl.dig s[m] = false; simp [Pl.dig]; omega
        · show Pl.dig s[m] = false; simp [Pl.dig]; omega)
      have HD := hide hd
      have HH := hide (has_drop hd hk)
      clear hd hx
      by_cases hA : k < s.size ∧ s.size - k ≤ 9
      · have hyes : Pl.has s.data.toList = true := by rw [HH.out]; simp [hA]
        have HY := hide hyes
        obtain ⟨hA1, hA2⟩ := hA
        have hb1 : ((k : Int) == (s.size : Int)) = false := by simp; omega
        clear hyes
        have HX := hide hx2
        clear hx2
        obtain ⟨kk, hkk⟩ : ∃ kk, k = kk := ⟨k, rfl⟩
        have HK := hide hkk
        have hkk1 : kk ≤ s.size := by omega
        have hkk2 : s.size - kk ≤ 9 := by omega
        have HG' := hide (show ∀ j (hj : j < s.size), kk ≤ j → Pl.dig s[j] = true from by subst hkk; exact HG.out)
        have HD' := hide (show Pl.digs s.data.toList = s.data.toList.drop kk from by subst hkk; exact HD.out)
        clear hkk HG HD HH
        rcases HX.out with h0 | ⟨m, hm, h0, h1⟩ | ⟨m, hm, h0, h1, h2⟩
        all_goals clear HX; subst h0
        all_goals
          first
            | (have hb2 : ((0 : Int) == (s.size : Int)) = false := hb1; clear hb1)
            | (have hb2 : ((m : Int) + 1 == (s.size : Int)) = false := hb1; clear hb1)
          go_wp2
          go_loop [5, 6] (fun n i => ∃ j : Nat, kk ≤ j ∧ j ≤ s.size ∧ i = .int .i64 j ∧ n = .int .u32 (numTo s kk j)) (fun _ i => s.size - (intOf i).toNat)
          case atStart => exact ⟨kk, Nat.le_refl _, hkk1, by rw [← HK.out]; rfl, by rw [numTo_start]; rfl⟩
          case round =>
            obtain ⟨j, hkj, hj, rfl, rfl⟩ := hrel
            clear hb2
            by_cases hlt : j < s.size
            · have HS := hide (numTo_step s kk j hkj hlt)
              have hb := numTo_lt s kk (j + 1) hkk2 HG'.out
              have hd := HG'.out j hlt hkj
              unfold Pl.dig at hd
              rw [Bool.and_eq_true, decide_eq_true_eq, decide_eq_true_eq] at hd
              obtain ⟨hd1, hd2⟩ := hd
              rw [HS.out] at hb
              generalize hn : numTo s kk j = n0 at hb HS
              go_wp2
              go_round
              case rel =>
                refine ⟨j + 1, by omega, by omega, by go_num, ?_⟩
                rw [HS.out]
                exact congrArg (Value.int .u32) (by omega)
              case measure => simp [intOf]; omega
            · obtain rfl : j = s.size := by omega
              have HE := hide (numTo_end s kk)
              go_wp2
              go_ret2
              refine ⟨ret_stamp ?_ HY.out.symm, rfl⟩
              rw [HE.out, st_some HY.out, HD'.out]
      · have hno : Pl.has s.data.toList = false := by
          rw [HH.out, ← Bool.not_eq_true]
          simp only [Bool.and_eq_true, decide_eq_true_eq]
          exact hA
        have HNo := hide hno
        clear hno HH HD
        have HX := hide hx2
        clear hx2
        by_cases hq : k = s.size
        · have hb1 : ((k : Int) == (s.size : Int)) = true := by simp; omega
          rcases HX.out with h0 | ⟨m, hm, h0, h1⟩ | ⟨m, hm, h0, h1, h2⟩
          all_goals
            clear HX hq hA
            subst h0
            first
              | (have hb2 : ((0 : Int) == (s.size : Int)) = true := hb1; clear hb1)
              | (have hb2 : ((m : Int) + 1 == (s.size : Int)) = true := hb1; clear hb1)
            go_wp2
            go_ret2
            refine ⟨ret_stamp ?_ HNo.out.symm, rfl⟩
            rw [st_none HNo.out]; rfl
        · have hb1 : ((k : Int) == (s.size : Int)) = false := by simp; omega
          have hbig : 9 < s.size - k := by
            rcases Nat.lt_or_ge 9 (s.size - k) with h | h
            · exact h
            · exact absurd ⟨by omega, h⟩ hA
          rcases HX.out with h0 | ⟨m, hm, h0, h1⟩ | ⟨m, hm, h0, h1, h2⟩
          all_goals
            clear HX hq hA
            subst h0
            first
              | (have hb2 : ((0 : Int) == (s.size : Int)) = false := hb1; clear hb1)
              | (have hb2 : ((m : Int) + 1 == (s.size : Int)) = false := hb1; clear hb1)
            go_wp2
            go_ret2
            refine ⟨ret_stamp ?_ HNo.out.symm, rfl⟩
            rw [st_none HNo.out]; rfl
end Go.Proofs.YtbajnkkekibdmaaDoor
