/- Walk of the document's Keep. -/
import Derived.Test.YtbajnkkekibdmaaDoorW14
namespace Go.Proofs.YtbajnkkekibdmaaDoor
open Go.RowKit Go.Shelf Go.Lib

set_option maxHeartbeats 1000000 in
set_option maxRecDepth 100000 in
theorem refKeep_bad (p : Po) (RA PA : Option Addr) (rc pc : Nat) (A : Option Addr) (cap : Nat) (ss : List ByteArray) (w : World) (hp : PoAt w w.heap.size p RA PA) (hmay : Pl.may p.pol = false) :
    Calls Tryd.prog 12 #[.slice A ss.length cap, .agg #[.int .i64 p.last, .slice RA p.rs.length rc, .slice PA p.ps.length pc]] w (KeepRes ss p w) := by
  have hB0 : ∀ o, Below w.heap.size w (w.alloc o) := fun o => (Below.refl _ _).alloc (Nat.le_refl _) o
  have HM := fun o => hide (refMay_any p RA PA rc pc (w.alloc o) ((hp.below (hB0 o)).mono (by simp)))
  have HE := hide (show Pl.err (bss ss) p.pol = 2 from by unfold Pl.err; rw [hmay]; rfl)
  rw [hmay] at HM
  clear hmay hp
  go_enter Tryd.func12, Tryd.ntmps12
  go_wp2_with (go_at_call 14; refine (HM _).out.mono ?_; rintro e w1 ⟨rfl, hb⟩; have HB := hide hb; clear hb)
  go_ret2
  exact keepRes_none HE.out (by decide) ((hB0 _).trans (HB.out.mono (by simp)))

set_option maxHeartbeats 1000000 in
set_option maxRecDepth 100000 in
theorem refKeep_long (p : Po) (RA PA : Option Addr) (rc pc : Nat) (A : Option Addr) (cap : Nat) (ss : List ByteArray) (w : World) (hp : PoAt w w.heap.size p RA PA) (hmay : Pl.may p.pol = true) (hl : 256 < ss.length) :
    Calls Tryd.prog 12 #[.slice A ss.length cap, .agg #[.int .i64 p.last, .slice RA p.rs.length rc, .slice PA p.ps.length pc]] w (KeepRes ss p w) := by
  have hB0 : ∀ o, Below w.heap.size w (w.alloc o) := fun o => (Below.refl _ _).alloc (Nat.le_refl _) o
  have HM := fun o => hide (refMay_any p RA PA rc pc (w.alloc o) ((hp.below (hB0 o)).mono (by simp)))
  have HE := hide (show Pl.err (bss ss) p.pol = 6 from by unfold Pl.err; rw [hmay]; simp [bss, hl])
  rw [hmay] at HM
  clear hmay hp
  go_enter Tryd.func12, Tryd.ntmps12
  go_wp2_with (go_at_call 14; refine (HM _).out.mono ?_; rintro e w1 ⟨rfl, hb⟩; have HB := hide hb; clear hb)
  go_ret2
  exact keepRes_none HE.out (by decide) ((hB0 _).trans (HB.out.mono (by simp)))

theorem KSt.drewN {w : World} {p : Po} {RA PA : Option Addr} {rc pc : Nat} {wr : World} (h : KSt w p RA PA rc pc wr) (q : Nat) : KSt w p RA PA rc pc (wr.drewN q) := h.below (below_drewN (Below.refl _ _) q)
theorem owns_drewN {w : World} {base size n : Nat} {e : TypeId} {v : Value} {xs : List Value} (h : w.ownsRow base e size v n xs) (q : Nat) : (w.drewN q).ownsRow base e size v n xs := owns_below h (below_drewN (Below.refl _ _) q)
/-- what the row holds behind k names -/
def keptTo (ns : List Pl.Bs) (p : Pl.Pol) (k : Nat) : List Bool := (ns.take k).map (Pl.keepB ns p)
theorem keptTo_len (ns : List Pl.Bs) (p : Pl.Pol) (k : Nat) (h : k ≤ ns.length) : (keptTo ns p k).length = k := by simp [keptTo, h]
theorem keptTo_step (ns : List Pl.Bs) (p : Pl.Pol) (k : Nat) (h : k < ns.length) : keptTo ns p (k + 1) = keptTo ns p k ++ [Pl.keepB ns p ns[k]] := by
  unfold keptTo
  rw [List.take_succ_eq_append_getElem h, List.map_append]
  rfl
theorem keptTo_end {ns : List Pl.Bs} {p : Pl.Pol} (h : Pl.err ns p = 0) : keptTo ns p ns.length = Pl.keep ns p := by
  unfold keptTo Pl.keep
  rw [if_pos h, List.take_length]
theorem name_at {w : World} {B : Nat} {A : Option Addr} {ss : List ByteArray} (h : Mem w B A (strs ss)) {k : Nat} (hk : k < ss.length) : ∃ b off, A = some ⟨b, off, none⟩ ∧ b < B ∧ ∀ j (hj : j < ss.length), w.cell? ⟨b, off + j, none⟩ = some (.string ss[j]) := by
  obtain ⟨b, off, e, hb, hc⟩ := h.get (by rw [strs_len]; omega)
  refine ⟨b, off, e, hb, fun j hj => ?_⟩
  rw [hc j (by rw [strs_len]; exact hj), strs_get ss j hj]
theorem bools_snoc (l : List Bool) (b : Bool) : bools (l ++ [b]) = bools l ++ [.bool b] := by simp [bools]
/-- is a name among the first pins? -/
def pinB (ps : List ByteArray) (nm : Pl.Bs) (j : Nat) : Bool := ((bss ps).take j).contains nm
theorem pinB_step (ps : List ByteArray) (nm : Pl.Bs) (j : Nat) (h : j < ps.length) : pinB ps nm (j + 1) = (pinB ps nm j || decide (ps[j].data.toList = nm)) := by
  have h' : j < (bss ps).length := by rw [bss_len]; exact h
  unfold pinB
  rw [List.take_succ_eq_append_getElem h', bss_get ps j h, List.contains_eq_any_beq, List.contains_eq_any_beq, List.any_append]
  congr 1
  show ((nm == ps[j].data.toList) || false) = decide (ps[j].data.toList = nm)
  rw [Bool.or_false, Bool.eq_iff_iff, beq_iff_eq, decide_eq_true_eq]
  exact eq_comm
theorem pinB_end (ps : List ByteArray) (nm : Pl.Bs) : pinB ps nm ps.length = (bss ps).contains nm := by
  unfold pinB
  rw [List.take_of_length_le (by rw [bss_len]; omega)]
theorem owns_mem {w : World} {base n : Nat} {v : Value} {l : List Bool} (h : w.ownsRow base 4 1 v n (bools l)) : ∃ A cap, v = .slice A l.length cap ∧ Mem w w.heap.size A (bools l) := by
  have hl : l.length = n := by have := h.1; rw [bools_len] at this; omega
  rcases h.2 with ⟨rfl, h0⟩ | ⟨g, cap, cur, rfl, _, hg, h1, _, h3, h4⟩
  · have : l = [] := List.eq_nil_of_length_eq_zero (by omega)
    subst this
    exact ⟨none, 0, rfl, Mem.nil⟩
  · refine ⟨some ⟨g, 0, none⟩, cap, by rw [hl], fun _ => ⟨g, 0, rfl, (Array.getElem?_eq_some_iff.1 hg).1, fun i hi => ?_⟩⟩
    rw [bools_len] at hi
    have e : cur.toList[i]? = some ((bools l)[i]'(by rw [bools_len]; exact hi)) := by
      rw [← List.getElem?_eq_getElem, ← h4, List.getElem?_take_of_lt (by omega)]
    rw [Array.getElem?_toList] at e
    simp [World.cell?, hg, e]
theorem KSt.grown {w : World} {p : Po} {RA PA : Option Addr} {rc pc : Nat} {wz w2 : World} {n : Nat} {v : Value} {xs : List Value} {o : Obj} (h : KSt w p RA PA rc pc wz) (ho : wz.ownsRow (w.heap.size + 1) 4 1 v n xs) (hg : (wz.alloc o).grownBy w2 v.ownBlock) : KSt w p RA PA rc pc w2 := by
  have hlt := h.pol.lt
  have hb : Below (w.heap.size + 1) wz w2 := ((Below.refl _ _).alloc (by omega) o).grown hg (by simp; omega) (fun g hg => (ho.lt g hg).1)
  exact ⟨h.pol.below hb (by omega), h.bel.trans (hb.mono (by omega))⟩

set_option maxHeartbeats 4000000 in
set_option maxRecDepth 100000 in
theorem refKeep_main (p : Po) (RA PA : Option Addr) (rc pc : Nat) (A : Option Addr) (cap : Nat) (ss : List ByteArray) (w : World) (hp : PoAt w w.heap.size p RA PA) (hmay : Pl.may p.pol = true) (hl : ss.length ≤ 256)
    (hm : Mem w w.heap.size A (strs ss)) (hs : ∀ s ∈ ss, s.size ≤ maxLen) (hsp : ∀ r ∈ p.rs, 0 ≤ r.1 ∧ r.1 < 4294967296) :
    Calls Tryd.prog 12 #[.slice A ss.length cap, .agg #[.int .i64 p.last, .slice RA p.rs.length rc, .slice PA p.ps.length pc]] w (KeepRes ss p w) := by
  obtain ⟨i0, hi, hz0, hz1, hz2⟩ := info_parts infoBool
  have hB0 : ∀ o, Below w.heap.size w (w.alloc o) := fun o => (Below.refl _ _).alloc (Nat.le_refl _) o
  have HM := fun o => hide (refMay_any p RA PA rc pc (w.alloc o) ((hp.below (hB0 o)).mono (by simp)))
  have HK0 := hide (⟨Whole.new w [.int .i64 p.last, .slice RA p.rs.length rc, .slice PA p.ps.length pc] 25, (Below.refl _ _).alloc (Nat.le_refl _) _⟩ : KSt w p RA PA rc pc (w.alloc _))
  have hsp1 : ∀ r ∈ p.rs, 0 < r.1 ∧ r.1 < 4294967296 := fun r hr => by
    have h1 := (Pl.may_parts hmay).2.2.2.1 r hr
    have h2 := hsp r hr
    exact ⟨by have := h1.1; omega, h2.2⟩
  have hps : p.ps.length ≤ 32 := (Pl.may_parts hmay).2.2.1 |> fun h => by simpa [Po.pol, bss] using h
  rw [hmay] at HM
  have HP := hide hp
  have HMem := hide hm
  have HS := hide hs
  have HSP := hide hsp1
  have HMay := hide hmay
  clear hp hm hs hsp hsp1 hmay
  go_enter Tryd.func12, Tryd.ntmps12
  go_wp2_with (go_at_call 14; refine (HM _).out.mono ?_; rintro e w1 ⟨rfl, hb⟩; have HK1 := hide (HK0.out.below hb); clear hb)
  go_loopw [6, 7] (fun v i wr => ∃ k : Nat, k ≤ ss.length ∧ i = .int .i64 k ∧ ((bss ss).take k).Nodup ∧ wr.ownsRow (w.heap.size + 1) 4 1 v k (bools (keptTo (bss ss) p.pol k)) ∧ KSt w p RA PA rc pc wr) (fun _ i _ => ss.length - (intOf i).toNat)
  case atStart => exact ⟨0, Nat.zero_le _, rfl, by simp, ⟨by simp [keptTo, bools], .inl ⟨rfl, rfl⟩⟩, HK1.out⟩
  case round =>
    obtain ⟨k, hk, rfl, hnd, hown, hst⟩ := hrel
    have HN := hide hnd
    have HO := hide hown
    have HK := hide hst
    have cP := hst.pol.cell 2
    have cW0 := hst.pol.cell 0
    have cW1 := hst.pol.cell 1
    have hszr := hst.pol.lt
    clear hnd hown hst
    by_cases hlt : k < ss.length
    · obtain ⟨b, off, rfl, hb, hc⟩ := name_at (HMem.out.below HK.out.bel) hlt
      have hck := hc k hlt
      have hsz := HS.out _ (List.getElem_mem hlt)
      have HC := hide hc
      clear hc
      obtain ⟨wo, hwo⟩ : ∃ wo, wo = wr := ⟨_, rfl⟩
      subst hwo
      go_wp2_with fail
      go_loopw [8] (fun i wz => ∃ j : Nat, j ≤ k ∧ i = .int .i64 j ∧ (∀ m (hm : m < ss.length), m < j → ss[m].data.toList ≠ ss[k].data.toList) ∧ ∃ q, wz = wo.drewN q) (fun i _ => k - (intOf i).toNat)
      case atStart => exact ⟨0, Nat.zero_le _, rfl, fun m _ h => absurd h (by omega), 0, rfl⟩
      case round =>
        obtain ⟨j, hj, rfl, hne, q, rfl⟩ := hrel
        have HNe := hide hne
        clear hne
        by_cases hjk : j < k
        · have hcj := HC.out j (by omega)
          have hbq := beq_lists (ss[j]'(by omega)) ss[k]
          by_cases he : (ss[j]'(by omega)).data.toList = ss[k].data.toList
          · rw [decide_eq_true he] at hbq
            have HE := hide he
            clear he
            go_wp2_with fail
            go_quiet (fail)
            go_wp2_with fail
            go_ret2
            refine keepRes_none (err_exist HMay.out hl (not_nodup hlt ?_)) (by decide) (by first | exact (HK.out.drewN _).bel | (rw [World.drewN_drewN]; exact (HK.out.drewN _).bel))
            rw [← HE.out, ← bss_get ss j (by omega)]
            exact List.mem_take_iff_getElem.2 ⟨j, by rw [bss_len]; omega, rfl⟩
          · rw [decide_eq_false he] at hbq
            have HE := hide he
            clear he
            go_wp2_with fail
            go_quiet (fail)
            go_wp2_with fail
            go_roundw
            case rel =>
              refine ⟨j + 1, by omega, by go_num, fun m hm hmj => ?_, _, by first | rfl | exact World.drewN_drewN ..⟩
              by_cases e : m = j
              · subst e; exact HE.out
              · exact HNe.out m hm (by omega)
            case measure => simp [intOf]; omega
        · obtain rfl : k = j := by omega
          have hnotin : ss[k].data.toList ∉ (bss ss).take k := by
            intro hin
            obtain ⟨m, hm, e⟩ := List.mem_take_iff_getElem.1 hin
            rw [bss_len] at hm
            rw [bss_get ss m (by omega)] at e
            exact HNe.out m (by omega) (by omega) e
          obtain ⟨hn1, _⟩ := nodup_snoc hlt HN.out hnotin
          clear hnotin
          have hSt := fun W => hide (refStamp_any ss[k] W hsz)
          have HKq0 := hide (HK.out.drewN q)
          have HOq0 := hide (owns_drewN HO.out q)
          generalize hx : Pl.st ss[k].data.toList = x at hSt
          generalize hh : Pl.has ss[k].data.toList = h at hSt
          have HH := hide hh
          clear hx hh
          cases h
          · go_wp2_with (go_at_call 9; refine (hSt _).out.mono ?_; rintro e w' ⟨rfl, rfl⟩)
            go_quiet (fail)
            go_wp2_with fail
            have cQ := HK.out.pol.cell 2
            have cQ0 := HK.out.pol.cell 0
            have cQ1 := HK.out.pol.cell 1
            have hszq := HK.out.pol.lt
            have hckq := (name_at (HMem.out.below HK.out.bel) hlt)
            obtain ⟨b9, off9, e9, hb9, hc9⟩ := hckq
            have hcq := hc9 k hlt
            injection e9 with e9
            injection e9 with e9 e9'
            subst e9 e9'
            clear hc9
            go_loopw [11, 12] (fun f i wz => ∃ j : Nat, j ≤ p.ps.length ∧ i = .int .i64 j ∧ f = .bool (true || pinB p.ps ss[k].data.toList j) ∧ ∃ q, wz = wo.drewN q) (fun _ i _ => p.ps.length - (intOf i).toNat)
            case atStart => exact ⟨0, Nat.zero_le _, rfl, by simp [pinB], _, by first | rfl | exact World.drewN_drewN ..⟩
            case round =>
              obtain ⟨j, hj, rfl, rfl, q2, rfl⟩ := hrel
              by_cases hjl : j < p.ps.length
              · obtain ⟨b5, off5, rfl, hb5, hc5⟩ := name_at (HP.out.pins.below HK.out.bel) hjl
                have hcp := hc5 j hjl
                have hb5' : b5 < wo.heap.size := by omega
                have hb9' : b < wo.heap.size := by omega
                have hstep := pinB_step p.ps ss[k].data.toList j hjl
                have hbq := beq_lists p.ps[j] ss[k]
                clear hc5
                generalize pinB p.ps ss[k].data.toList j = y at *
                clear hstep hbq
                go_wp2_with fail
                go_quiet (fail)
                go_wp2_with fail
                go_roundw
                case rel => exact ⟨j + 1, by omega, by go_num, by simp, _, by first | rfl | exact World.drewN_drewN ..⟩
                case measure => simp [intOf]; omega
              · obtain rfl : j = p.ps.length := by omega
                rw [pinB_end]
                have hkp2 : Pl.keepB (bss ss) p.pol ss[k].data.toList = (true || (bss p.ps).contains ss[k].data.toList) := by unfold Pl.keepB; rw [HH.out]; rfl
                generalize hyy : (true || (bss p.ps).contains ss[k].data.toList) = y at *
                have HKp := hide hkp2
                clear hkp2 hyy
                have HOz := hide (owns_drewN HO.out q2)
                have HKz := hide (HK.out.drewN q2)
                have hszz : w.heap.size < (wo.drewN q2).heap.size := hszq
                have cQ' : (wo.drewN q2).cell? ⟨w.heap.size, 2, none⟩ = _ := cQ
                generalize wo.drewN q2 = wz at *
                go_wp2_with (at_builtin; refine wpList_append_own _ rfl _ _ 31 rfl (w.heap.size + 1) 4 i0 (.bool false) 1 1 Tryd.underlying31 hi hz0 hz1 hz2 rfl (by decide) _ _ _ rfl (HOz.out.alloc _) ⟨wz.heap.size, 0, none⟩ 1 1 [.bool y] rfl rfl ?c1 ?c2 ?c3 ?c4 ?c5 ?_)
                try (case c1 => exact fun j u hu => new_cells wz _ _ j u hu)
                case c2 => rfl
                case c3 => unfold maxLen; omega
                case c4 => omega
                case c5 => have : (wz.alloc (.cells #[.bool y] 4)).heap.size = wz.heap.size + 1 := by simp
                           omega
                intro v2 w2 hown2 hg2 _
                have HO2 := hide hown2
                have HK2 := hide (HKz.out.grown HOz.out hg2)
                clear hown2 hg2
                go_wp2
                go_roundw
                case rel =>
                  refine ⟨k + 1, by omega, by go_num, hn1, ?_, HK2.out⟩
                  rw [keptTo_step (bss ss) p.pol k (by rw [bss_len]; exact hlt), bss_get ss k hlt, HKp.out, bools_snoc]
                  exact HO2.out
                case measure => simp [intOf]; omega
          · have HCall := fun W (hk : KSt w p RA PA rc pc W) => hide (refKept_any p RA PA rc pc (some ⟨b, off, none⟩) cap ss ss[k] W ((HP.out.below hk.bel).mono hk.bel.size) ((HMem.out.below hk.bel).mono hk.bel.size) HS.out hsz (by omega) HSP.out)
            generalize hkb : Pl.kept (bss ss) p.pol ss[k].data.toList = kb at HCall
            have HB1 := hide hkb
            clear hkb
            go_wp2_with (go_at_call 9; refine (hSt _).out.mono ?_; rintro e w' ⟨rfl, rfl⟩)
            have c0 : (wo.drewN q).cell? ⟨w.heap.size, 0, none⟩ = _ := cW0
            have c1 : (wo.drewN q).cell? ⟨w.heap.size, 1, none⟩ = _ := cW1
            have c2 : (wo.drewN q).cell? ⟨w.heap.size, 2, none⟩ = _ := cP
            have c3 : (wo.drewN q).cell? ⟨b, off + k, none⟩ = _ := hck
            have hs3 : w.heap.size < (wo.drewN q).heap.size := hszr
            clear cW0 cW1 cP hck
            generalize wo.drewN q = w3 at *
            refine wp_region_still_tail 9 (by kernel_rfl) (by kernel_rfl) ?_
            simp only [List.take_succ_cons, List.take_zero, List.drop_succ_cons, List.drop_zero]
            change wpStill _ _ w3.drew _ _ _
            change w3.drew.cell? _ = some _ at c0 c1 c2 c3
            still_step
            still_step
            still_step
            still_step
            still_step
            still_step
            still_step
            still_step
            still_step
            refine wpStill_nil ?_
            change wpList _ _ _ _ _ w3.drew
            have HK3 : Hid (KSt w p RA PA rc pc w3.drew) := hide (HKq0.out.drewN 1)
            have HO3 : Hid (w3.drew.ownsRow (w.heap.size + 1) 4 1 u6 k (bools (keptTo (bss ss) p.pol k))) := hide (owns_drewN HOq0.out 1)
            generalize w3.drew = w5 at *
            go_wp2_with (go_at_call 21; refine (HCall _ HK3.out).out.mono ?_; rintro e w4 ⟨rfl, hb4⟩; have HK4 := hide (HK3.out.below hb4); have HO4 := hide (owns_below HO3.out hb4); clear hb4)
            have cQ := HK4.out.pol.cell 2
            have cQ0 := HK4.out.pol.cell 0
            have cQ1 := HK4.out.pol.cell 1
            have hszq := HK4.out.pol.lt
            have hckq := (name_at (HMem.out.below HK4.out.bel) hlt)
            obtain ⟨b9, off9, e9, hb9, hc9⟩ := hckq
            have hcq := hc9 k hlt
            injection e9 with e9
            injection e9 with e9 e9'
            subst e9 e9'
            clear hc9
            go_loopw [11, 12] (fun f i wz => ∃ j : Nat, j ≤ p.ps.length ∧ i = .int .i64 j ∧ f = .bool (kb || pinB p.ps ss[k].data.toList j) ∧ ∃ q, wz = w4.drewN q) (fun _ i _ => p.ps.length - (intOf i).toNat)
            case atStart => exact ⟨0, Nat.zero_le _, rfl, by simp [pinB], 0, rfl⟩
            case round =>
              obtain ⟨j, hj, rfl, rfl, q2, rfl⟩ := hrel
              by_cases hjl : j < p.ps.length
              · obtain ⟨b5, off5, rfl, hb5, hc5⟩ := name_at (HP.out.pins.below HK4.out.bel) hjl
                have hcp := hc5 j hjl
                have hb5' : b5 < w4.heap.size := by omega
                have hb9' : b < w4.heap.size := by omega
                have hstep := pinB_step p.ps ss[k].data.toList j hjl
                have hbq := beq_lists p.ps[j] ss[k]
                clear hc5
                have hstep2 : (kb || pinB p.ps ss[k].data.toList (j + 1)) = ((kb || pinB p.ps ss[k].data.toList j) || decide (p.ps[j].data.toList = ss[k].data.toList)) := by rw [hstep, Bool.or_assoc]
                clear hstep
                have hstep := hstep2
                clear hstep2
                generalize (kb || pinB p.ps ss[k].data.toList j) = y at *
                have HStep := hide hstep
                clear hstep
                cases y
                · by_cases he : p.ps[j].data.toList = ss[k].data.toList
                  · rw [decide_eq_true he] at hbq
                    have HE := hide he
                    clear he
                    go_wp2_with fail
                    go_quiet (fail)
                    go_wp2_with fail
                    go_roundw
                    case rel => exact ⟨j + 1, by omega, by go_num, by rw [HStep.out]; simp [HE.out], _, by first | rfl | exact World.drewN_drewN ..⟩
                    case measure => simp [intOf]; omega
                  · rw [decide_eq_false he] at hbq
                    have HE := hide he
                    clear he
                    go_wp2_with fail
                    go_quiet (fail)
                    go_wp2_with fail
                    go_roundw
                    case rel => exact ⟨j + 1, by omega, by go_num, by rw [HStep.out]; simp [HE.out], _, by first | rfl | exact World.drewN_drewN ..⟩
                    case measure => simp [intOf]; omega
                · go_wp2_with fail
                  go_quiet (fail)
                  go_wp2_with fail
                  go_roundw
                  case rel => exact ⟨j + 1, by omega, by go_num, by rw [HStep.out]; simp, _, by first | rfl | exact World.drewN_drewN ..⟩
                  case measure => simp [intOf]; omega
              · obtain rfl : j = p.ps.length := by omega
                rw [pinB_end]
                have hkp2 : Pl.keepB (bss ss) p.pol ss[k].data.toList = (kb || (bss p.ps).contains ss[k].data.toList) := by unfold Pl.keepB; rw [HH.out, HB1.out]; rfl
                generalize hyy : (kb || (bss p.ps).contains ss[k].data.toList) = y at *
                have HKp := hide hkp2
                clear hkp2 hyy
                have HOz := hide (owns_drewN HO4.out q2)
                have HKz := hide (HK4.out.drewN q2)
                have hszz : w.heap.size < (w4.drewN q2).heap.size := hszq
                have cQ' : (w4.drewN q2).cell? ⟨w.heap.size, 2, none⟩ = _ := cQ
                generalize w4.drewN q2 = wz at *
                go_wp2_with (at_builtin; refine wpList_append_own _ rfl _ _ 31 rfl (w.heap.size + 1) 4 i0 (.bool false) 1 1 Tryd.underlying31 hi hz0 hz1 hz2 rfl (by decide) _ _ _ rfl (HOz.out.alloc _) ⟨wz.heap.size, 0, none⟩ 1 1 [.bool y] rfl rfl ?d1 ?d2 ?d3 ?d4 ?d5 ?_)
                try (case d1 => exact fun j u hu => new_cells wz _ _ j u hu)
                case d2 => rfl
                case d3 => unfold maxLen; omega
                case d4 => omega
                case d5 => have : (wz.alloc (.cells #[.bool y] 4)).heap.size = wz.heap.size + 1 := by simp
                           omega
                intro v2 w2 hown2 hg2 _
                have HO2 := hide hown2
                have HK2 := hide (HKz.out.grown HOz.out hg2)
                clear hown2 hg2
                go_wp2
                go_roundw
                case rel =>
                  refine ⟨k + 1, by omega, by go_num, hn1, ?_, HK2.out⟩
                  rw [keptTo_step (bss ss) p.pol k (by rw [bss_len]; exact hlt), bss_get ss k hlt, HKp.out, bools_snoc]
                  exact HO2.out
                case measure => simp [intOf]; omega
    · obtain rfl : k = ss.length := by omega
      go_wp2
      go_ret2
      have hnod : (bss ss).Nodup := by have := HN.out; rwa [List.take_of_length_le (by rw [bss_len]; omega)] at this
      have he : Pl.err (bss ss) p.pol = 0 := by rw [Pl.err_iff]; exact ⟨HMay.out, by rw [bss_len]; exact hl, hnod⟩
      have hke := keptTo_end he
      rw [bss_len] at hke
      rw [hke] at HO
      obtain ⟨A1, cap1, rfl, hm1⟩ := owns_mem HO.out
      exact ⟨A1, cap1, by rw [he]; rfl, HK.out.bel, hm1⟩
end Go.Proofs.YtbajnkkekibdmaaDoor
