/- Walks of (Policy).May: its two closures, slices.IndexFunc and ContainsFunc over rules and over texts. -/
import Derived.Test.YtbajnkkekibdmaaDoorW3
namespace Go.Proofs.YtbajnkkekibdmaaDoor
open Go.RowKit

/-- a rule's two cells -/
def ruleC (r : Int × Int) : List Value := [.int .u32 r.1, .int .i64 r.2]
def rules (rs : List (Int × Int)) : List Value := rs.flatMap ruleC
theorem rules_len (rs : List (Int × Int)) : (rules rs).length = 2 * rs.length := by
  induction rs with
  | nil => rfl
  | cons r rs ih => simp only [rules, List.flatMap_cons, List.length_append, List.length_cons] at ih ⊢; simp only [ruleC, List.length_cons, List.length_nil]; omega
theorem rules_get? (rs : List (Int × Int)) (i : Nat) (h : i < rs.length) : (rules rs)[2 * i]? = some (.int .u32 rs[i].1) ∧ (rules rs)[2 * i + 1]? = some (.int .i64 rs[i].2) := by
  induction rs generalizing i with
  | nil => simp at h
  | cons r rs ih =>
    cases i with
    | zero => exact ⟨rfl, rfl⟩
    | succ i =>
      have := ih i (by simpa using h)
      have e1 : 2 * (i + 1) = 2 * i + 2 := by omega
      rw [e1]
      exact this
theorem Mem.rule {w : World} {B : Nat} {A : Option Addr} {rs : List (Int × Int)} (h : Mem w B A (rules rs)) (k : Nat) (hk : k < rs.length) : ∃ b off, A = some ⟨b, off, none⟩ ∧ b < B ∧
    w.cell? ⟨b, off + k * 2, none⟩ = some (.int .u32 rs[k].1) ∧ w.cell? ⟨b, off + k * 2 + 1, none⟩ = some (.int .i64 rs[k].2) := by
  obtain ⟨b, off, e, hb, hc⟩ := h.get (by rw [rules_len]; omega)
  obtain ⟨h1, h2⟩ := rules_get? rs k hk
  have l : (rules rs).length = 2 * rs.length := rules_len rs
  rw [Nat.mul_comm k 2]
  refine ⟨b, off, e, hb, ?_, ?_⟩
  · rw [hc (2 * k) (by omega), ← h1, List.getElem?_eq_getElem]
  · have := hc (2 * k + 1) (by omega)
    rw [← Nat.add_assoc] at this
    rw [this, ← h2, List.getElem?_eq_getElem]

set_option maxHeartbeats 400000 in
theorem bad_any (r : Int × Int) (w : World) : Calls Tryd.prog 22 #[.agg #[.int .u32 r.1, .int .i64 r.2]] w fun e w' => e = .returned (.bool (Pl.badR r)) ∧ Below w.heap.size w w' := by
  obtain ⟨sp, c⟩ := r
  have HC := fun W => hide (count_any c W)
  by_cases h0 : sp = 0
  · subst h0
    have hb : ((0 : Int) == 0) = true := rfl
    go_enter Tryd.func22, Tryd.ntmps22
    go_wp2_with (fail)
    go_ret
    exact ⟨ret_bool (by simp [Pl.badR]), (Below.refl _ _).alloc (Nat.le_refl _) _⟩
  · have hb : (sp == 0) = false := by simp [h0]
    have H0 := hide h0
    clear h0
    go_enter Tryd.func22, Tryd.ntmps22
    go_wp2_with (go_at_call 23; refine (HC _).out.mono ?_; rintro e w' ⟨rfl, rfl⟩)
    go_ret
    refine ⟨ret_bool ?_, (Below.refl _ _).alloc (Nat.le_refl _) _⟩
    have := H0.out
    simp [Pl.badR, this]

set_option maxHeartbeats 400000 in
theorem notName_any (s : ByteArray) (w : World) (hs : s.size ≤ maxLen) : Calls Tryd.prog 26 #[.string s] w fun e w' => e = .returned (.bool (!Pl.name s.data.toList)) ∧ w = w' := by
  have HN := hide (pathName_any s w hs)
  clear hs
  go_enter Tryd.func26, Tryd.ntmps26
  go_wp2_with (go_at_call 27; refine HN.out.mono ?_; rintro e w' ⟨rfl, rfl⟩)
  go_ret
  exact ⟨rfl, rfl⟩

def NotAll (ss : List ByteArray) : Prop := (bss ss).all Pl.name = false
def SomeBad (rs : List (Int × Int)) : Prop := (rs.all fun r => !Pl.badR r) = false

set_option maxHeartbeats 400000 in
theorem indexName_any (A : Option Addr) (cap : Nat) (ss : List ByteArray) (B : Nat) (w : World) (hm : Mem w B A (strs ss)) (hn : ss.length ≤ 9223372036854775807) (hs : ∀ s ∈ ss, s.size ≤ maxLen) :
    Calls Tryd.prog 42 #[.slice A ss.length cap, .func (.func 26) #[] #[]] w (Found w (NotAll ss)) := by
  have HM := hide hm
  have HS := hide hs
  clear hm hs
  go_enter Tryd.func42, Tryd.ntmps42
  go_wp2
  go_loop [5, 8] (fun _ i => ∃ k : Nat, k ≤ ss.length ∧ i = .int .i64 k ∧ ∀ j (hj : j < ss.length), j < k → Pl.name ss[j].data.toList = true) (fun _ i => ss.length - (intOf i).toNat)
  case atStart => exact ⟨0, Nat.zero_le _, rfl, fun j _ h => absurd h (by omega)⟩
  case round =>
    obtain ⟨k, hk, rfl, hg⟩ := hrel
    have HG := hide hg
    clear hg
    by_cases hlt : k < ss.length
    · obtain ⟨b, off, rfl, _, hc⟩ := HM.out.get (by rw [strs_len]; omega)
      have hck := hc k (by rw [strs_len]; exact hlt)
      rw [strs_get ss k hlt] at hck
      clear hc
      have hN := notName_any ss[k] w (HS.out _ (List.getElem_mem _))
      generalize hb : Pl.name ss[k].data.toList = b' at hN
      have HB := hide hb
      have HN := hide hN
      clear hb hN
      cases b'
      · go_wp2_with (go_at_call 26; refine HN.out.mono ?_; rintro e w' ⟨rfl, rfl⟩)
        go_ret
        refine ⟨k, rfl, by omega, ?_, rfl⟩
        constructor
        · intro _; exact List.all_eq_false.2 ⟨_, mem_bss k hlt, by rw [HB.out]; simp⟩
        · intro _; omega
      · go_wp2_with (go_at_call 26; refine HN.out.mono ?_; rintro e w' ⟨rfl, rfl⟩)
        go_round
        case rel =>
          refine ⟨k + 1, by omega, by go_num, fun j hj hjk => ?_⟩
          by_cases e : j = k
          · subst e; exact HB.out
          · exact HG.out j hj (by omega)
        case measure => simp [intOf]; omega
    · go_wp2
      go_ret
      refine ⟨-1, rfl, by omega, ?_, rfl⟩
      constructor
      · intro h; omega
      · intro h
        obtain ⟨x, hx, hx2⟩ := List.all_eq_false.1 h
        obtain ⟨i, hi, rfl⟩ := bss_mem hx
        exact absurd (HG.out i hi (by omega)) hx2

set_option maxHeartbeats 400000 in
theorem anyNotName_any (A : Option Addr) (cap : Nat) (ss : List ByteArray) (B : Nat) (w : World) (hm : Mem w B A (strs ss)) (hn : ss.length ≤ 9223372036854775807) (hs : ∀ s ∈ ss, s.size ≤ maxLen) :
    Calls Tryd.prog 25 #[.slice A ss.length cap, .func (.func 26) #[] #[]] w fun e w' => e = .returned (.bool (!(bss ss).all Pl.name)) ∧ w = w' := by
  have HI := hide (indexName_any A cap ss B w hm hn hs)
  clear hm hs
  go_enter Tryd.func25, Tryd.ntmps25
  go_wp2_with (go_at_call 42; refine HI.out.mono ?_; rintro e w' ⟨r, rfl, h1, h2, rfl⟩; have H2 := hide h2; clear h2)
  go_ret
  refine ⟨ret_bool ?_, rfl⟩
  rw [Bool.eq_iff_iff, Bool.not_eq_true']
  have := H2.out
  simp only [decide_eq_true_eq]
  exact this

/-- the same behind blocks of the call's own -/
def FoundB (w : World) (P : Prop) (e : Ending) (w' : World) : Prop := ∃ r : Int, e = .returned (.int .i64 r) ∧ -1 ≤ r ∧ (0 ≤ r ↔ P) ∧ Below w.heap.size w w'

set_option maxHeartbeats 400000 in
theorem indexBad_any (A : Option Addr) (cap : Nat) (rs : List (Int × Int)) (w : World) (hm : Mem w w.heap.size A (rules rs)) (hn : rs.length ≤ 9223372036854775807) :
    Calls Tryd.prog 41 #[.slice A rs.length cap, .func (.func 22) #[] #[]] w (FoundB w (SomeBad rs)) := by
  have HM := hide hm
  clear hm
  go_enter Tryd.func41, Tryd.ntmps41
  go_wp2
  go_loopw [5, 8] (fun _ i wr => ∃ k : Nat, k ≤ rs.length ∧ i = .int .i64 k ∧ (∀ j (hj : j < rs.length), j < k → Pl.badR rs[j] = false) ∧ Below w.heap.size w wr) (fun _ i _ => rs.length - (intOf i).toNat)
  case atStart => exact ⟨0, Nat.zero_le _, rfl, fun j _ h => absurd h (by omega), Below.refl _ _⟩
  case round =>
    obtain ⟨k, hk, rfl, hg, hB⟩ := hrel
    have HG := hide hg
    have HBl := hide hB
    clear hg hB
    by_cases hlt : k < rs.length
    · obtain ⟨b, off, rfl, _, hc1, hc2⟩ := (HM.out.below HBl.out).rule k hlt
      have hN := bad_any rs[k] wr
      generalize hb : Pl.badR rs[k] = b' at hN
      have HB := hide hb
      have HN := hide hN
      clear hb hN
      cases b'
      · go_wp2_with (go_at_call 22; refine HN.out.mono ?_; rintro e w1 ⟨rfl, hb1⟩; have HB1 := hide hb1; clear hb1)
        go_roundw
        case rel =>
          refine ⟨k + 1, by omega, by go_num, fun j hj hjk => ?_, HBl.out.trans (HB1.out.mono HBl.out.size)⟩
          by_cases e : j = k
          · subst e; exact HB.out
          · exact HG.out j hj (by omega)
        case measure => simp [intOf]; omega
      · go_wp2_with (go_at_call 22; refine HN.out.mono ?_; rintro e w1 ⟨rfl, hb1⟩; have HB1 := hide hb1; clear hb1)
        go_ret
        refine ⟨k, rfl, by omega, ?_, HBl.out.trans (HB1.out.mono HBl.out.size)⟩
        constructor
        · intro _; exact List.all_eq_false.2 ⟨_, List.getElem_mem hlt, by rw [HB.out]; simp⟩
        · intro _; omega
    · go_wp2
      go_ret
      refine ⟨-1, rfl, by omega, ?_, HBl.out⟩
      constructor
      · intro h; omega
      · intro h
        obtain ⟨x, hx, hx2⟩ := List.all_eq_false.1 h
        obtain ⟨i, hi, rfl⟩ := List.getElem_of_mem hx
        exact absurd (HG.out i hi (by omega)) (by simpa using hx2)

set_option maxHeartbeats 400000 in
theorem anyBad_any (A : Option Addr) (cap : Nat) (rs : List (Int × Int)) (w : World) (hm : Mem w w.heap.size A (rules rs)) (hn : rs.length ≤ 9223372036854775807) :
    Calls Tryd.prog 24 #[.slice A rs.length cap, .func (.func 22) #[] #[]] w fun e w' => e = .returned (.bool (!(rs.all fun r => !Pl.badR r))) ∧ Below w.heap.size w w' := by
  have HI := hide (indexBad_any A cap rs w hm hn)
  clear hm
  go_enter Tryd.func24, Tryd.ntmps24
  go_wp2_with (go_at_call 41; refine HI.out.mono ?_; rintro e w' ⟨r, rfl, h1, h2, h3⟩; have H2 := hide h2; have H3 := hide h3; clear h2 h3)
  go_ret
  refine ⟨ret_bool ?_, H3.out⟩
  rw [Bool.eq_iff_iff, Bool.not_eq_true']
  have := H2.out
  simp only [decide_eq_true_eq]
  exact this
end Go.Proofs.YtbajnkkekibdmaaDoor
