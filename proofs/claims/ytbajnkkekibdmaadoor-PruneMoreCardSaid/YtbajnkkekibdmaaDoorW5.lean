/- Walks of the two (Policy).May. -/
import Derived.Test.YtbajnkkekibdmaaDoorW4
namespace Go.Proofs.YtbajnkkekibdmaaDoor
open Go.RowKit

/-- a policy as the call has it -/
structure Po where
  last : Int
  rs : List (Int × Int)
  ps : List ByteArray
def Po.pol (p : Po) : Pl.Pol := { last := p.last, rules := p.rs, pins := bss p.ps }
/-- what is known of its parts in memory -/
structure PoAt (w : World) (B : Nat) (p : Po) (RA PA : Option Addr) : Prop where
  rules : Mem w B RA (rules p.rs)
  pins : Mem w B PA (strs p.ps)
  rlen : p.rs.length ≤ 9223372036854775807
  plen : p.ps.length ≤ 9223372036854775807
  texts : ∀ s ∈ p.ps, s.size ≤ maxLen
theorem PoAt.below {w w' : World} {B : Nat} {p : Po} {RA PA : Option Addr} (h : PoAt w B p RA PA) (hb : Below B w w') : PoAt w' B p RA PA :=
  ⟨h.rules.below hb, h.pins.below hb, h.rlen, h.plen, h.texts⟩
theorem PoAt.mono {w : World} {B B' : Nat} {p : Po} {RA PA : Option Addr} (h : PoAt w B p RA PA) (hB : B ≤ B') : PoAt w B' p RA PA :=
  ⟨h.rules.mono hB, h.pins.mono hB, h.rlen, h.plen, h.texts⟩

theorem may_eq (p : Po) : Pl.may p.pol = (Pl.cnt p.last && decide (p.rs.length ≤ 8) && decide (p.ps.length ≤ 32) && p.rs.all (fun r => !Pl.badR r) && (bss p.ps).all Pl.name) := by
  unfold Pl.may Po.pol
  simp only [bss, List.length_map]

set_option maxHeartbeats 800000 in
theorem may_any (p : Po) (RA PA : Option Addr) (rc pc : Nat) (w : World) (h : PoAt w w.heap.size p RA PA) :
    Calls Tryd.prog 13 #[.agg #[.int .i64 p.last, .slice RA p.rs.length rc, .slice PA p.ps.length pc]] w fun e w' => e = .returned (.bool (Pl.may p.pol)) ∧ Below w.heap.size w w' := by
  obtain ⟨last, rs, ps⟩ := p
  have HE := hide (may_eq ⟨last, rs, ps⟩)
  have hB0 : ∀ o, Below w.heap.size w (w.alloc o) := fun o => (Below.refl _ _).alloc (Nat.le_refl _) o
  have HC := fun W => hide (count_any last W)
  have HR := fun o => hide (anyBad_any RA rc rs (w.alloc o) ((h.rules.below (hB0 o)).mono (by simp)) h.rlen)
  have HP := fun w1 (hb : Below w.heap.size w w1) => hide (anyNotName_any PA pc ps _ w1 (h.pins.below hb) h.plen h.texts)
  clear h
  dsimp only at *
  generalize hcb : Pl.cnt last = b1 at *
  generalize hrb : (rs.all fun r => !Pl.badR r) = b2 at *
  generalize hpb : (bss ps).all Pl.name = b3 at *
  clear hcb hrb hpb
  cases b1
  · go_enter Tryd.func13, Tryd.ntmps13
    go_wp2_with (go_at_call 23; refine (HC _).out.mono ?_; rintro e w' ⟨rfl, rfl⟩)
    go_ret
    exact ⟨ret_bool (by rw [HE.out]; rfl), hB0 _⟩
  · by_cases h8 : rs.length ≤ 8
    · by_cases h32 : ps.length ≤ 32
      · cases b2
        · go_enter Tryd.func13, Tryd.ntmps13
          go_wp2_with (first | (go_at_call 23; refine (HC _).out.mono ?_; rintro e w' ⟨rfl, rfl⟩) | (go_at_call 24; refine (HR _).out.mono ?_; rintro e w1 ⟨rfl, hb1⟩; have HB1 := hide hb1; clear hb1))
          go_ret
          refine ⟨ret_bool (by rw [HE.out]; simp), ?_⟩
          exact (hB0 _).trans (HB1.out.mono (by simp))
        · go_enter Tryd.func13, Tryd.ntmps13
          go_wp2_with (first | (go_at_call 23; refine (HC _).out.mono ?_; rintro e w' ⟨rfl, rfl⟩) | (go_at_call 24; refine (HR _).out.mono ?_; rintro e w1 ⟨rfl, hb1⟩; have hbw := hide ((hB0 _).trans (hb1.mono (by simp))); have hcc := hb1.cell (p := ⟨w.heap.size, 2, none⟩) (by simp); simp at hcc; clear hb1) | (go_at_call 25; refine (HP _ hbw.out).out.mono ?_; rintro e w2 ⟨rfl, rfl⟩))
          go_ret
          refine ⟨ret_bool (by rw [HE.out]; simp [h8, h32]), ?_⟩
          exact hbw.out
      · go_enter Tryd.func13, Tryd.ntmps13
        go_wp2_with (go_at_call 23; refine (HC _).out.mono ?_; rintro e w' ⟨rfl, rfl⟩)
        go_ret
        exact ⟨ret_bool (by rw [HE.out]; simp [h32]), hB0 _⟩
    · go_enter Tryd.func13, Tryd.ntmps13
      go_wp2_with (go_at_call 23; refine (HC _).out.mono ?_; rintro e w' ⟨rfl, rfl⟩)
      go_ret
      exact ⟨ret_bool (by rw [HE.out]; simp [h8]), hB0 _⟩

theorem badR_iff (r : Int × Int) : Pl.badR r = false ↔ r.1 ≠ 0 ∧ 0 ≤ r.2 ∧ r.2 ≤ 64 := by simp [Pl.badR, Pl.cnt]

set_option maxHeartbeats 1000000 in
theorem refMay_any (p : Po) (RA PA : Option Addr) (rc pc : Nat) (w : World) (h : PoAt w w.heap.size p RA PA) :
    Calls Tryd.prog 14 #[.agg #[.int .i64 p.last, .slice RA p.rs.length rc, .slice PA p.ps.length pc]] w fun e w' => e = .returned (.bool (Pl.may p.pol)) ∧ Below w.heap.size w w' := by
  obtain ⟨last, rs, ps⟩ := p
  have HE := hide (may_eq ⟨last, rs, ps⟩)
  have hB0 : ∀ o, Below w.heap.size w (w.alloc o) := fun o => (Below.refl _ _).alloc (Nat.le_refl _) o
  have HR := hide h.rules
  have HP := hide h.pins
  have HT := hide h.texts
  have hrl := h.rlen
  have hpl := h.plen
  clear h
  dsimp only at *
  by_cases h1 : 0 ≤ last ∧ last ≤ 64 ∧ rs.length ≤ 8 ∧ ps.length ≤ 32
  · obtain ⟨ha, hb, hc, hd⟩ := h1
    go_enter Tryd.func14, Tryd.ntmps14
    go_wp2
    go_loop [3] (fun i => ∃ k : Nat, k ≤ rs.length ∧ i = .int .i64 k ∧ ∀ j (hj : j < rs.length), j < k → Pl.badR rs[j] = false) (fun i => rs.length - (intOf i).toNat)
    case atStart => exact ⟨0, Nat.zero_le _, rfl, fun j _ h => absurd h (by omega)⟩
    case round =>
      obtain ⟨k, hk, rfl, hg⟩ := hrel
      have HG := hide hg
      clear hg
      by_cases hlt : k < rs.length
      · obtain ⟨b, off, rfl, hb', hc1, hc2⟩ := HR.out.rule k hlt
        generalize hr : rs[k] = r at hc1 hc2
        have HRr := hide hr
        clear hr
        obtain ⟨sp, c⟩ := r
        dsimp only at hc1 hc2
        by_cases hbad : sp ≠ 0 ∧ 0 ≤ c ∧ c ≤ 64
        · obtain ⟨h0, hc0, hc64⟩ := hbad
          have hz : (sp == 0) = false := by simp [h0]
          have H0 := hide h0
          clear h0
          go_wp2
          go_round
          case rel =>
            refine ⟨k + 1, by omega, by go_num, fun j hj hjk => ?_⟩
            by_cases e : j = k
            · subst e; rw [HRr.out, badR_iff]; exact ⟨H0.out, hc0, hc64⟩
            · exact HG.out j hj (by omega)
          case measure => simp [intOf]; omega
        · have hno : Pl.badR rs[k] = true := by
            rw [HRr.out, ← Bool.not_eq_false, badR_iff]
            exact hbad
          have hf : Pl.may (Po.pol ⟨last, rs, ps⟩) = false := by
            rw [HE.out]
            have : (rs.all fun r => !Pl.badR r) = false := List.all_eq_false.2 ⟨_, List.getElem_mem hlt, by rw [hno]; simp⟩
            rw [this]; simp
          have HF := hide hf
          clear hf hno HRr
          by_cases h0 : sp = 0
          · have hz : (sp == 0) = true := by simp [h0]
            clear h0 hbad
            go_wp2
            go_ret
            exact ⟨ret_bool HF.out.symm, hB0 _⟩
          · have hz : (sp == 0) = false := by simp [h0]
            have hcc : c < 0 ∨ 64 < c := by
              rcases Int.lt_or_le c 0 with h | h
              · exact .inl h
              · rcases Int.lt_or_le 64 c with h' | h'
                · exact .inr h'
                · exact absurd ⟨h0, h, h'⟩ hbad
            clear h0 hbad
            rcases hcc with hcc | hcc
            · go_wp2
              go_ret
              exact ⟨ret_bool HF.out.symm, hB0 _⟩
            · have hc0 : ¬ c < 0 := by omega
              go_wp2
              go_ret
              exact ⟨ret_bool HF.out.symm, hB0 _⟩
      · have hall : (rs.all fun r => !Pl.badR r) = true := by
          rw [List.all_eq_true]
          intro x hx
          obtain ⟨i, hi, rfl⟩ := List.getElem_of_mem hx
          rw [HG.out i hi (by omega)]; rfl
        have HA := hide hall
        clear hall HG
        go_wp2
        go_loop [4] (fun i => ∃ k : Nat, k ≤ ps.length ∧ i = .int .i64 k ∧ ∀ j (hj : j < ps.length), j < k → Pl.name ps[j].data.toList = true) (fun i => ps.length - (intOf i).toNat)
        case atStart => exact ⟨0, Nat.zero_le _, rfl, fun j _ h => absurd h (by omega)⟩
        case round =>
          obtain ⟨m, hm, rfl, hg⟩ := hrel
          have HG := hide hg
          clear hg
          by_cases hlt' : m < ps.length
          · obtain ⟨b, off, rfl, hb', hcs⟩ := HP.out.get (by rw [strs_len]; omega)
            have hck := hcs m (by rw [strs_len]; exact hlt')
            rw [strs_get ps m hlt'] at hck
            clear hcs
            have hN := fun W => refName_any ps[m] W (HT.out _ (List.getElem_mem _))
            generalize hb2 : Pl.name ps[m].data.toList = b' at hN
            have HB := hide hb2
            have HN := fun W => hide (hN W)
            clear hb2 hN
            cases b'
            · go_wp2_with (go_at_call 28; refine (HN _).out.mono ?_; rintro e w' ⟨rfl, rfl⟩)
              go_ret
              refine ⟨ret_bool ?_, hB0 _⟩
              rw [HE.out]
              have : (bss ps).all Pl.name = false := List.all_eq_false.2 ⟨_, mem_bss m hlt', by rw [HB.out]; simp⟩
              rw [this]; simp
            · go_wp2_with (go_at_call 28; refine (HN _).out.mono ?_; rintro e w' ⟨rfl, rfl⟩)
              go_round
              case rel =>
                refine ⟨m + 1, by omega, by go_num, fun j hj hjk => ?_⟩
                by_cases e : j = m
                · subst e; exact HB.out
                · exact HG.out j hj (by omega)
              case measure => simp [intOf]; omega
          · go_wp2
            go_ret
            refine ⟨ret_bool ?_, hB0 _⟩
            rw [HE.out, HA.out]
            have : (bss ps).all Pl.name = true := by
              rw [List.all_eq_true]
              intro x hx
              obtain ⟨i, hi, rfl⟩ := bss_mem hx
              exact HG.out i hi (by omega)
            rw [this]
            simp [Pl.cnt, ha, hb, hc, hd]
  · have hf : Pl.may (Po.pol ⟨last, rs, ps⟩) = false := by
      rw [HE.out, ← Bool.not_eq_true]
      simp only [Pl.cnt, Bool.and_eq_true, decide_eq_true_eq]
      exact fun h => h1 ⟨h.1.1.1.1.1, h.1.1.1.1.2, h.1.1.1.2, h.1.1.2⟩
    have HF := hide hf
    clear hf
    by_cases ha : last < 0
    · go_enter Tryd.func14, Tryd.ntmps14
      go_wp2
      go_ret
      exact ⟨ret_bool HF.out.symm, hB0 _⟩
    · by_cases hb : 64 < last
      · go_enter Tryd.func14, Tryd.ntmps14
        go_wp2
        go_ret
        exact ⟨ret_bool HF.out.symm, hB0 _⟩
      · by_cases hc : 8 < rs.length
        · go_enter Tryd.func14, Tryd.ntmps14
          go_wp2
          go_ret
          exact ⟨ret_bool HF.out.symm, hB0 _⟩
        · have hd : 32 < ps.length := by
            rcases Nat.lt_or_ge 32 ps.length with h | h
            · exact h
            · exact absurd ⟨by omega, by omega, by omega, h⟩ h1
          clear h1
          go_enter Tryd.func14, Tryd.ntmps14
          go_wp2
          go_ret
          exact ⟨ret_bool HF.out.symm, hB0 _⟩
end Go.Proofs.YtbajnkkekibdmaaDoor
