/- Walks of the statements' own functions: kept, wakes. -/
import Derived.Test.YtbajnkkekibdmaaDoorW16
namespace Go.Proofs.YtbajnkkekibdmaaDoor
open Go.RowKit Go.Shelf Go.Lib

theorem infoStr : (Tryd.prog.info? 9).map (fun i => (i.zero, i.size, i.bytes)) = some (some (.string ByteArray.empty), 1, 16) := by kernel_rfl
theorem strs_snoc (l : List ByteArray) (b : ByteArray) : strs (l ++ [b]) = strs l ++ [.string b] := by simp [strs]
theorem owns_strs {w : World} {base n : Nat} {v : Value} {l : List ByteArray} (h : w.ownsRow base 9 1 v n (strs l)) : ∃ A cap, v = .slice A l.length cap ∧ Mem w w.heap.size A (strs l) := by
  have hl : l.length = n := by have := h.1; rw [strs_len] at this; omega
  rcases h.2 with ⟨rfl, h0⟩ | ⟨g, cap, cur, rfl, _, hg, h1, _, h3, h4⟩
  · have : l = [] := List.eq_nil_of_length_eq_zero (by omega)
    subst this
    exact ⟨none, 0, rfl, Mem.nil⟩
  · refine ⟨some ⟨g, 0, none⟩, cap, by rw [hl], fun _ => ⟨g, 0, rfl, (Array.getElem?_eq_some_iff.1 hg).1, fun i hi => ?_⟩⟩
    rw [strs_len] at hi
    have e : cur.toList[i]? = some ((strs l)[i]'(by rw [strs_len]; exact hi)) := by
      rw [← List.getElem?_eq_getElem, ← h4, List.getElem?_take_of_lt (by omega)]
    rw [Array.getElem?_toList] at e
    simp [World.cell?, hg, e]
/-- what kept hands back -/
def KeptRes (ss : List ByteArray) (p : Po) (w : World) (e : Ending) (w' : World) : Prop :=
  if Pl.err (bss ss) p.pol = 0 then ∃ (A : Option Addr) (cap : Nat), e = .returned (.tuple #[.slice A (pickN ss (Pl.keep (bss ss) p.pol)).length cap, .bool true]) ∧ Below w.heap.size w w' ∧ Mem w' w'.heap.size A (strs (pickN ss (Pl.keep (bss ss) p.pol)))
  else e = .returned (.tuple #[.slice none 0 0, .bool false]) ∧ Below w.heap.size w w'
theorem keep_len {ss : List ByteArray} {p : Po} (h : Pl.err (bss ss) p.pol = 0) : (Pl.keep (bss ss) p.pol).length = ss.length := by
  unfold Pl.keep
  rw [if_pos h, List.length_map, bss_len]

set_option maxHeartbeats 2000000 in
set_option maxRecDepth 100000 in
theorem kept_any (p : Po) (RA PA : Option Addr) (rc pc : Nat) (A : Option Addr) (cap : Nat) (ss : List ByteArray) (w : World) (hp : PoAt w w.heap.size p RA PA)
    (hm : Mem w w.heap.size A (strs ss)) (hs : ∀ s ∈ ss, s.size ≤ maxLen) (hsp : ∀ r ∈ p.rs, 0 ≤ r.1 ∧ r.1 < 4294967296) :
    Calls Tryd.prog 16 #[.slice A ss.length cap, .agg #[.int .i64 p.last, .slice RA p.rs.length rc, .slice PA p.ps.length pc]] w (KeptRes ss p w) := by
  obtain ⟨i0, hi, hz0, hz1, hz2⟩ := info_parts infoStr
  have hB0 : ∀ o, Below w.heap.size w (w.alloc o) := fun o => (Below.refl _ _).alloc (Nat.le_refl _) o
  have HK := fun o => hide (keep_any p RA PA rc pc A cap ss (w.alloc o) ((hp.below (hB0 o)).mono (by simp)) ((hm.below (hB0 o)).mono (by simp)) hs hsp)
  have HMem := hide hm
  clear hp hm hs hsp
  by_cases he : Pl.err (bss ss) p.pol = 0
  · have hkl := keep_len he
    have hl : ss.length ≤ 256 := by have := (Pl.err_iff _ _).1 he; have h := this.2.1; rwa [bss_len] at h
    unfold KeptRes
    simp only [if_pos he]
    unfold KeepRes at HK
    rw [he] at HK
    generalize Pl.keep (bss ss) p.pol = l at *
    have HE := hide he
    clear he
    go_enter Tryd.func16, Tryd.ntmps16
    have hlb : ((l.length : Int) != (ss.length : Int)) = false := by simp; omega
    go_wp2_with (go_at_call 10; refine (HK _).out.mono ?_; rintro e w1 ⟨A1, cap1, rfl, hb, hm1⟩; have HB := hide ((hB0 _).trans (hb.mono (by simp))); have HM1 := hide hm1; clear hb hm1)
    have hbs : w.heap.size ≤ w1.heap.size := HB.out.size
    go_loopw [8, 9] (fun v i wr => ∃ k : Nat, k ≤ ss.length ∧ i = .int .i64 k ∧ wr.ownsRow w1.heap.size 9 1 v (pickTo ss l k).length (strs (pickTo ss l k)) ∧ Below w1.heap.size w1 wr) (fun _ i _ => ss.length - (intOf i).toNat)
    case atStart => exact ⟨0, Nat.zero_le _, rfl, ⟨by simp [pickTo, pickN, strs], .inl ⟨rfl, by simp [pickTo, pickN]⟩⟩, Below.refl _ _⟩
    case round =>
      obtain ⟨k, hk, rfl, hown, hb⟩ := hrel
      have HO := hide hown
      have HB2 := hide hb
      clear hown hb
      by_cases hlt : k < ss.length
      · have hlt2 : k < l.length := by omega
        obtain ⟨b2, o2, rfl, hb2, hc2⟩ := bool_at (HM1.out.below HB2.out) hlt2
        have f2 := hc2 k hlt2
        obtain ⟨b1, o1, rfl, hb1, hc1⟩ := name_at ((HMem.out.below HB.out).mono hbs |>.below HB2.out) hlt
        have f1 := hc1 k hlt
        have hst := pickTo_step ss l k hlt hlt2
        have hle := pickTo_le ss l k
        have hb2' : b2 < wr.heap.size := by have := HB2.out.size; omega
        have hb1' : b1 < wr.heap.size := by have := HB2.out.size; omega
        have hszw := HB2.out.size
        have HSt := hide hst
        clear hc1 hc2 hst
        generalize l[k] = x at *
        cases x
        · go_wp2
          go_roundw
          case rel =>
            refine ⟨k + 1, by omega, by go_num, ?_, HB2.out⟩
            rw [HSt.out]
            simpa using HO.out
          case measure => simp [intOf]; omega
        · go_wp2_with (at_builtin; refine wpList_append_own _ rfl _ _ 22 rfl w1.heap.size 9 i0 (.string ByteArray.empty) 1 16 Tryd.underlying22 hi hz0 hz1 hz2 rfl (by decide) _ _ _ rfl (HO.out.alloc _) ⟨wr.heap.size, 0, none⟩ 1 1 [.string ss[k]] rfl rfl ?c1 ?c2 ?c3 ?c4 ?c5 ?_)
          try (case c1 => exact fun j u hu => new_cells wr _ _ j u hu)
          case c2 => rfl
          case c3 => unfold maxLen; omega
          case c4 => omega
          case c5 => have : (wr.alloc (.cells #[.string ss[k]] 9)).heap.size = wr.heap.size + 1 := by simp
                     omega
          intro v2 w2 hown2 hg2 _
          have HO2 := hide hown2
          have HB3 := hide ((HB2.out.alloc (by omega) (.cells #[.string ss[k]] 9)).grown hg2 (by simp; omega) (fun g hg => (HO.out.lt g hg).1))
          clear hown2 hg2
          go_wp2
          go_roundw
          case rel =>
            refine ⟨k + 1, by omega, by go_num, ?_, HB3.out⟩
            rw [HSt.out]
            simp only [if_true]
            rw [strs_snoc, List.length_append]
            exact HO2.out
          case measure => simp [intOf]; omega
      · obtain rfl : k = ss.length := by omega
        go_wp2
        go_ret2
        have e : pickTo ss l ss.length = pickN ss l := by
          unfold pickTo
          rw [List.take_length, List.take_of_length_le (by omega)]
        rw [e] at HO
        obtain ⟨A3, cap3, rfl, hm3⟩ := owns_strs HO.out
        exact ⟨A3, cap3, rfl, HB.out.trans (HB2.out.mono hbs), hm3⟩
  · unfold KeptRes
    simp only [if_neg he]
    unfold KeepRes at HK
    generalize Pl.err (bss ss) p.pol = x at *
    generalize Pl.keep (bss ss) p.pol = l at *
    have hxb : (x != 0) = true := by simpa using he
    clear he
    go_enter Tryd.func16, Tryd.ntmps16
    go_wp2_with (go_at_call 10; refine (HK _).out.mono ?_; rintro e w1 ⟨A1, cap1, rfl, hb, hm1⟩; have HB := hide ((hB0 _).trans (hb.mono (by simp))); clear hb hm1)
    go_ret2
    exact ⟨rfl, HB.out⟩
end Go.Proofs.YtbajnkkekibdmaaDoor
