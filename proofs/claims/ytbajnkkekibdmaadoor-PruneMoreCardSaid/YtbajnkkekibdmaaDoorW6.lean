/- Walk of the program's Stamp. -/
import Derived.Test.YtbajnkkekibdmaaDoorW2
import Derived.Test.YtbajnkkekibdmaaDoorW5
import Derived.Test.YtbajnkkekibdmaaDoorShelf
namespace Go.Proofs.YtbajnkkekibdmaaDoor
open Go.RowKit Go.Shelf Go.Lib

def cut10 : List UInt8 := [48, 49, 50, 51, 52, 53, 54, 55, 56, 57]
theorem cut10_dig (c : UInt8) : cut10.contains c = Pl.dig c := by
  have h : ∀ n : Fin 256, cut10.contains (UInt8.ofNat n) = Pl.dig (UInt8.ofNat n) := by decide +kernel
  have := h ⟨c.toNat, c.toNat_lt⟩
  simpa using this

theorem trim_len (s : List UInt8) : ∃ k, k ≤ s.length ∧ Lib.trimRightS s cut10 = s.take k ∧ Pl.digs s = s.drop k ∧ ∀ j (hj : j < s.length), k ≤ j → Pl.dig s[j] = true := by
  have e1 : s.reverse = s.reverse.takeWhile Pl.dig ++ s.reverse.dropWhile Pl.dig := (List.takeWhile_append_dropWhile).symm
  have e2 : s = (s.reverse.dropWhile Pl.dig).reverse ++ (s.reverse.takeWhile Pl.dig).reverse := by
    rw [← List.reverse_append, ← e1, List.reverse_reverse]
  have e3 : Lib.trimRightS s cut10 = (s.reverse.dropWhile Pl.dig).reverse := by
    unfold Lib.trimRightS
    have : (fun b => cut10.contains b) = Pl.dig := funext cut10_dig
    rw [this]
  have e4 : Pl.digs s = (s.reverse.takeWhile Pl.dig).reverse := rfl
  generalize hA : (s.reverse.dropWhile Pl.dig).reverse = A at e2 e3
  generalize hB : (s.reverse.takeWhile Pl.dig).reverse = B at e2 e4
  have hd : ∀ c ∈ B, Pl.dig c = true := by
    intro c hc
    rw [← hB, List.mem_reverse] at hc
    have := List.all_takeWhile (p := Pl.dig) (l := s.reverse)
    rw [List.all_eq_true] at this
    exact this c hc
  refine ⟨A.length, ?_, ?_, ?_, ?_⟩
  · rw [e2]; simp
  · rw [e3, e2]; simp
  · rw [e4, e2]; simp
  · intro j hj hk
    have hlen : s.length = A.length + B.length := by rw [e2]; simp
    have : s[j] = B[j - A.length]'(by omega) := by
      have : s[j] = (A ++ B)[j]'(by rw [← e2]; exact hj) := by simp only [← e2]
      rw [this, List.getElem_append_right hk]
    rw [this]
    exact hd _ (List.getElem_mem _)

def Trimmed (k : Nat) (w : World) (e : Ending) (w' : World) : Prop := ∃ r : ByteArray, e = .returned (.string r) ∧ r.size = k ∧ Below w.heap.size w w'
theorem trim_any (s : ByteArray) (w : World) (hs : s.size ≤ maxLen) (k : Nat) (hk : Lib.trimRightS s.data.toList cut10 = s.data.toList.take k) (hk2 : k ≤ s.size) :
    Calls Tryd.prog 17 #[.string s, .string ⟨#[48, 49, 50, 51, 52, 53, 54, 55, 56, 57]⟩] w (Trimmed k w) := by
  have hcon := Any.strings_TrimRight_laid Tryd.lays162 (by kernel_rfl) s ⟨#[48, 49, 50, 51, 52, 53, 54, 55, 56, 57]⟩ w hs (by decide) (ascii_of_all (by decide))
  change Calls Tryd.prog 17 _ _ (fun e w' => e = .returned (.string ⟨(Lib.trimRightS s.data.toList cut10).toArray⟩) ∧ Below w.heap.size w w') at hcon
  refine hcon.mono ?_
  rintro e w' ⟨rfl, hb⟩
  refine ⟨_, rfl, ?_, hb⟩
  rw [hk]
  show (s.data.toList.take k).toArray.size = k
  rw [List.size_toArray, List.length_take, size_list]
  omega

set_option maxHeartbeats 1000000 in
theorem stamp_any (s : ByteArray) (w : World) (hs : s.size ≤ maxLen) : Calls Tryd.prog 8 #[.string s] w fun e w' => e = .returned (.tuple #[.int .u32 (Pl.st s.data.toList), .bool (Pl.has s.data.toList)]) ∧ Below w.heap.size w w' := by
  obtain ⟨k, hk, ht, hd, hg⟩ := trim_len s.data.toList
  rw [size_list] at hk
  have HT := hide (trim_any s w hs k ht hk)
  have HH := hide (has_drop hd hk)
  have HD := hide hd
  have HG := hide (show ∀ j (hj : j < s.size), k ≤ j → Pl.dig s[j] = true from fun j hj => hg j (by rw [size_list]; exact hj))
  clear ht hd hg
  unfold maxLen at hs
  by_cases hA : k < s.size ∧ s.size - k ≤ 9
  · have hyes : Pl.has s.data.toList = true := by rw [HH.out]; simp [hA]
    have HY := hide hyes
    obtain ⟨hA1, hA2⟩ := hA
    clear hyes
    go_enter Tryd.func8, Tryd.ntmps8
    go_wp2_with (go_at_call 17; refine HT.out.mono ?_; rintro e w1 ⟨r, rfl, hr, hb⟩; have HBB := hide hb; subst hr; clear hb)
    generalize hE : s.extract r.size s.size = E
    have HE := hide (show E.size = s.size - r.size from by rw [← hE]; simp [ByteArray.size_extract])
    have HX := hide (show ∀ j (h1 : j < E.size) (h2 : r.size + j < s.size), E[j] = s[r.size + j] from by
      intro j h1 h2
      subst hE
      rw [ByteArray.getElem_extract])
    clear hE
    go_loop [5, 6, 22] (fun n _ i => ∃ j : Nat, j ≤ s.size - r.size ∧ i = .int .i64 j ∧ n = .int .u32 (numTo s r.size (r.size + j))) (fun _ _ i => (s.size - r.size) - (intOf i).toNat)
    case atStart => exact ⟨0, Nat.zero_le _, rfl, by rw [Nat.add_zero, numTo_start]; rfl⟩
    case round =>
      obtain ⟨j, hj, rfl, rfl⟩ := hrel
      by_cases hlt : j < s.size - r.size
      · have HS := hide (numTo_step s r.size (r.size + j) (by omega) (by omega))
        have hb := numTo_lt s r.size (r.size + j + 1) hA2 HG.out
        have hdg := HG.out (r.size + j) (by omega) (by omega)
        unfold Pl.dig at hdg
        rw [Bool.and_eq_true, decide_eq_true_eq, decide_eq_true_eq] at hdg
        obtain ⟨hd1, hd2⟩ := hdg
        have hjE : j < E.size := by rw [HE.out]; exact hlt
        rw [← HX.out j hjE (by omega)] at hd1 hd2
        rw [HS.out, ← HX.out j hjE (by omega)] at hb
        generalize hn : numTo s r.size (r.size + j) = n0 at hb
        have HN := hide hn
        clear hn
        go_wp2
        go_round
        case rel =>
          refine ⟨j + 1, by omega, by go_num, ?_⟩
          rw [← Nat.add_assoc, HS.out, ← HX.out j hjE (by omega), HN.out]
          exact congrArg (Value.int .u32) (by omega)
        case measure => simp [intOf]; omega
      · obtain rfl : j = s.size - r.size := by omega
        have HEn := hide (numTo_end s r.size)
        go_wp2
        go_ret2
        refine ⟨ret_stamp ?_ HY.out.symm, HBB.out⟩
        rw [HEn.out, st_some HY.out, HD.out]
  · have hno : Pl.has s.data.toList = false := by
      rw [HH.out, ← Bool.not_eq_true]
      simp only [Bool.and_eq_true, decide_eq_true_eq]
      exact hA
    have HNo := hide hno
    clear hno
    by_cases hq : s.size - k < 1
    · clear hA
      go_enter Tryd.func8, Tryd.ntmps8
      go_wp2_with (go_at_call 17; refine HT.out.mono ?_; rintro e w1 ⟨r, rfl, hr, hb⟩; have HBB := hide hb; subst hr; clear hb)
      go_ret2
      refine ⟨ret_stamp ?_ HNo.out.symm, HBB.out⟩
      rw [st_none HNo.out]; rfl
    · have hbig : 9 < s.size - k := by
        rcases Nat.lt_or_ge 9 (s.size - k) with h | h
        · exact h
        · exact absurd ⟨by omega, h⟩ hA
      clear hA
      go_enter Tryd.func8, Tryd.ntmps8
      go_wp2_with (go_at_call 17; refine HT.out.mono ?_; rintro e w1 ⟨r, rfl, hr, hb⟩; have HBB := hide hb; subst hr; clear hb)
      go_ret2
      refine ⟨ret_stamp ?_ HNo.out.symm, HBB.out⟩
      rw [st_none HNo.out]; rfl
end Go.Proofs.YtbajnkkekibdmaaDoor
