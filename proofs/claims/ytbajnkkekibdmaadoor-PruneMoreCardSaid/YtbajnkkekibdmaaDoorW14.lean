/- Walk of the document's kept. -/
import Derived.Test.YtbajnkkekibdmaaDoorW12
import Derived.Test.YtbajnkkekibdmaaDoorW13
import Derived.BigQuiet
namespace Go.Proofs.YtbajnkkekibdmaaDoor
open Go.RowKit Go.Shelf Go.Lib

theorem kept_true_last {ns : List Pl.Bs} {p : Pl.Pol} {nm : Pl.Bs} (h : (Pl.ahead ns nm : Int) < p.last) : Pl.kept ns p nm = true := by simp [Pl.kept, h]
theorem kept_true_rule {ns : List Pl.Bs} {p : Pl.Pol} {nm : Pl.Bs} {r : Int × Int} (hr : r ∈ p.rules) (h : Pl.ruleB ns nm r = true) : Pl.kept ns p nm = true := by
  unfold Pl.kept
  rw [Bool.or_eq_true, List.any_eq_true]
  exact .inr ⟨r, hr, h⟩
theorem kept_false {ns : List Pl.Bs} {p : Pl.Pol} {nm : Pl.Bs} (h : ¬ (Pl.ahead ns nm : Int) < p.last) (hr : ∀ r ∈ p.rules, Pl.ruleB ns nm r = false) : Pl.kept ns p nm = false := by
  unfold Pl.kept
  rw [Bool.or_eq_false_iff, List.any_eq_false]
  exact ⟨by simpa using h, fun r hr' => by rw [hr r hr']; simp⟩
theorem wf_div {x : Nat} {sp : Int} (h : x < 1000000000) (h0 : 0 < sp) : (Lit.int .u32 ((x : Int) / sp)).wf = true := by
  have h3 : (x : Int) / sp ≤ (x : Int) := Int.ediv_le_self _ (by omega)
  have h4 : 0 ≤ (x : Int) / sp := Int.ediv_nonneg (by omega) (by omega)
  exact WalkArith.wf_u32 ⟨h4, by omega⟩
/-- the state of the loops: the policy's box is there, and the old memory -/
structure KSt (w : World) (p : Po) (RA PA : Option Addr) (rc pc : Nat) (wr : World) : Prop where
  pol : Whole wr w.heap.size 25 [.int .i64 p.last, .slice RA p.rs.length rc, .slice PA p.ps.length pc]
  bel : Below w.heap.size w wr
theorem KSt.below {w : World} {p : Po} {RA PA : Option Addr} {rc pc : Nat} {wr w' : World} (h : KSt w p RA PA rc pc wr) (hb : Below wr.heap.size wr w') : KSt w p RA PA rc pc w' :=
  ⟨h.pol.below hb h.pol.lt, h.bel.trans (hb.mono h.bel.size)⟩
theorem wpList_len_guard {H : Type} {P : Program} (w : World) {ops : Array Oper} {rest : List Oper} {o : Oper} {a : Act} {Q : Exit → Act → World → Prop} (hg : Region.wanted o (yielded ops a.tmps) = true) (m : Operand) (t : TypeId) (hop : o.op = Op.call { callee := Callee.builtin Builtin.len, args := #[m], argTypes := #[t] })
    (k e : TypeId) (ht : P.underlying t = some (.map k e)) (R : Value → Option (DataW H × List MemPlace)) (b n : Nat) (D : DataW H) (hm : a.eval m = .map (some b)) (hown : w.ownsMap P k R b n D)
    (hK : wpList P ops Q rest (a.put o.dst (.int .i64 (Maps.size D))) w) :
    wpList P ops Q (o :: rest) a w := by
  refine wpList_step fun K' hK' => ?_
  rw [if_pos hg]
  unfold Oper.wp
  simp [execOp, hop, resolve, invoke, builtin, hm, hown.len ht o.type, Result.andThen]
  exact hK' _ _ hK
/-- the state of a rule's loop -/
structure InSt (w : World) (p : Po) (RA PA : Option Addr) (rc pc : Nat) (m : Nat) (sp c : Int) (keys : List Int) (n : Nat) (w3 : World) : Prop where
  map : w3.ownsMap Tryd.prog 28 (plainElem (H := Unit) Tryd.prog 4) (m + 1) n (setK keys)
  rule : Whole w3 m 46 [.int .u32 sp, .int .i64 c]
  kst : KSt w p RA PA rc pc w3
  lo : w.heap.size < m
theorem InSt.drew {w : World} {p : Po} {RA PA : Option Addr} {rc pc : Nat} {m : Nat} {sp c : Int} {keys : List Int} {n : Nat} {w3 : World} (h : InSt w p RA PA rc pc m sp c keys n w3) {n' : Nat} (hn : n ≤ n') : InSt w p RA PA rc pc m sp c keys n' w3.drew := by
  refine ⟨?_, h.rule.below (Below.refl w3.heap.size w3).drew h.rule.lt, h.kst.below (Below.refl w3.heap.size w3).drew, h.lo⟩
  obtain ⟨es, clock, q1, q2, q3, q4⟩ := h.map
  exact ⟨es, clock, q1, q2, by omega, q4⟩
theorem InSt.drewN {w : World} {p : Po} {RA PA : Option Addr} {rc pc : Nat} {m : Nat} {sp c : Int} {keys : List Int} {n : Nat} {w3 : World} (h : InSt w p RA PA rc pc m sp c keys n w3) (q : Nat) {n' : Nat} (hn : n ≤ n') : InSt w p RA PA rc pc m sp c keys n' (w3.drewN q) := by
  have hb := below_drewN (Below.refl w3.heap.size w3) q
  refine ⟨?_, h.rule.below hb h.rule.lt, h.kst.below hb, h.lo⟩
  obtain ⟨es, clock, q1, q2, q3, q4⟩ := h.map
  exact ⟨es, clock, q1, q2, by omega, q4⟩
theorem InSt.grow {w : World} {p : Po} {RA PA : Option Addr} {rc pc : Nat} {m : Nat} {sp c : Int} {keys : List Int} {n : Nat} {w3 w4 : World} (h : InSt w p RA PA rc pc m sp c keys n w3) {x : Int} (hown : w4.ownsMap Tryd.prog 28 (plainElem (H := Unit) Tryd.prog 4) (m + 1) (n + 1) ((setK keys).put (.int .u32 x) (.lit (.bool true)))) (hg : w3.grownBy w4 (some (m + 1))) : InSt w p RA PA rc pc m sp c (keys ++ [x]) (n + 1) w4 := by
  have hlo := h.lo
  have hm := h.map.lt
  have hb : Below (m + 1) w3 w4 := Below.grown (Below.refl _ _) hg (by omega) (fun j hj => by cases hj; exact Nat.le_refl _)
  refine ⟨by rw [setK_snoc]; exact hown, h.rule.below hb (by omega), ⟨h.kst.pol.below hb (by omega), h.kst.bel.trans (hb.mono (by omega))⟩, h.lo⟩

set_option maxHeartbeats 4000000 in
set_option maxRecDepth 100000 in
theorem refKept_any (p : Po) (RA PA : Option Addr) (rc pc : Nat) (A : Option Addr) (cap : Nat) (ss : List ByteArray) (nm : ByteArray) (w : World) (hp : PoAt w w.heap.size p RA PA) (hm : Mem w w.heap.size A (strs ss)) (hs : ∀ s ∈ ss, s.size ≤ maxLen) (hnm : nm.size ≤ maxLen)
    (hl : ss.length ≤ 1000) (hsp : ∀ r ∈ p.rs, 0 < r.1 ∧ r.1 < 4294967296) :
    Calls Tryd.prog 21 #[.slice A ss.length cap, .string nm, .agg #[.int .i64 p.last, .slice RA p.rs.length rc, .slice PA p.ps.length pc]] w fun e w' => e = .returned (.bool (Pl.kept (bss ss) p.pol nm.data.toList)) ∧ Below w.heap.size w w' := by
  have HP := hide hp
  have HMem := hide hm
  have HS := hide hs
  have HSP := hide hsp
  have HNM := hide hnm
  have HSt := fun W => hide (refStamp_any nm W hnm)
  have hrl := hp.rlen
  have hmm := @run_makeMap Tryd.prog
  have HLt := hide (st_lt nm.data.toList)
  have HB0 := hide (⟨Whole.new w [.int .i64 p.last, .slice RA p.rs.length rc, .slice PA p.ps.length pc] 25, (Below.refl _ _).alloc (Nat.le_refl _) _⟩ : KSt w p RA PA rc pc (w.alloc _))
  clear hp hm hs hsp hnm
  generalize hx : Pl.st nm.data.toList = x at HSt HLt
  generalize hh : Pl.has nm.data.toList = h at HSt
  have HX := hide hx
  clear hx hh
  go_enter Tryd.func21, Tryd.ntmps21
  go_wp2_with (go_at_call 9; refine (HSt _).out.mono ?_; rintro e w' ⟨rfl, rfl⟩)
  go_loop [9, 10] (fun a i => ∃ k : Nat, k ≤ ss.length ∧ i = .int .i64 k ∧ a = .int .i64 (aheadTo (bss ss) nm.data.toList k)) (fun _ i => ss.length - (intOf i).toNat)
  case atStart => exact ⟨0, Nat.zero_le _, rfl, rfl⟩
  case round =>
    obtain ⟨k, hk, rfl, rfl⟩ := hrel
    have hle := aheadTo_le (bss ss) nm.data.toList k
    by_cases hlt : k < ss.length
    · obtain ⟨b, off, rfl, hb, hcs⟩ := HMem.out.get (by rw [strs_len]; omega)
      have hck := hcs k (by rw [strs_len]; exact hlt)
      rw [strs_get ss k hlt] at hck
      have hsz := HS.out _ (List.getElem_mem hlt)
      have hN := fun W => hide (refStamp_any ss[k] W hsz)
      have hNw := fun W => hide (newer_any ss[k] nm W hsz HNM.out)
      have hstep := aheadTo_step (bss ss) nm.data.toList k (by rw [bss_len]; exact hlt)
      rw [bss_get ss k hlt] at hstep
      clear hcs
      generalize aheadTo (bss ss) nm.data.toList k = a0 at *
      generalize Pl.has ss[k].data.toList = h2 at *
      generalize Pl.st ss[k].data.toList = x2 at *
      generalize Pl.newer ss[k].data.toList nm.data.toList = b2 at *
      have HStep := hide hstep
      clear hstep
      cases h2
      · go_wp2_with (go_at_call 9; refine (hN _).out.mono ?_; rintro e w' ⟨rfl, rfl⟩)
        go_round
        case rel => exact ⟨k + 1, by omega, by go_num, by rw [HStep.out]; simp⟩
        case measure => simp [intOf]; omega
      · cases b2
        · go_wp2_with (first | (go_at_call 9; refine (hN _).out.mono ?_; rintro e w' ⟨rfl, rfl⟩) | (go_at_call 40; refine (hNw _).out.mono ?_; rintro e w' ⟨rfl, rfl⟩))
          go_round
          case rel => exact ⟨k + 1, by omega, by go_num, by rw [HStep.out]; simp⟩
          case measure => simp [intOf]; omega
        · go_wp2_with (first | (go_at_call 9; refine (hN _).out.mono ?_; rintro e w' ⟨rfl, rfl⟩) | (go_at_call 40; refine (hNw _).out.mono ?_; rintro e w' ⟨rfl, rfl⟩))
          go_round
          case rel => exact ⟨k + 1, by omega, by go_num, by rw [HStep.out]; simp⟩
          case measure => simp [intOf]; omega
    · obtain rfl : k = ss.length := by omega
      have hend := aheadTo_end (bss ss) nm.data.toList
      rw [bss_len] at hend
      rw [hend] at hle ⊢
      generalize hah : Pl.ahead (bss ss) nm.data.toList = ah at hle ⊢
      have HAh := hide hah
      clear hah hend
      by_cases hlast : (ah : Int) < p.last
      · go_wp2
        go_ret
        exact ⟨ret_bool (kept_true_last (by rw [HAh.out]; exact hlast)).symm, HB0.out.bel⟩
      · have hKF := hide (kept_false (p := p.pol) (nm := nm.data.toList) (by rw [HAh.out]; exact hlast))
        go_wp2_with fail
        go_loopw [13] (fun i wr => ∃ k : Nat, k ≤ p.rs.length ∧ i = .int .i64 k ∧ (∀ r ∈ p.rs.take k, Pl.ruleB (bss ss) nm.data.toList r = false) ∧ KSt w p RA PA rc pc wr) (fun i _ => p.rs.length - (intOf i).toNat)
        case atStart => exact ⟨0, Nat.zero_le _, rfl, by simp, HB0.out⟩
        case round =>
          obtain ⟨k, hk, rfl, hno, hst⟩ := hrel
          have HNo := hide hno
          have HK := hide hst
          have cR := hst.pol.cell 1
          have hszr := hst.pol.lt
          clear hno hst
          by_cases hlt : k < p.rs.length
          · obtain ⟨b, off, rfl, hb, c1, c2⟩ := (HP.out.rules.below HK.out.bel).rule k hlt
            have hb' : b < wr.heap.size := by have := HK.out.bel.size; omega
            have hspk := HSP.out _ (List.getElem_mem hlt)
            have htk : p.rs.take (k + 1) = p.rs.take k ++ [p.rs[k]] := by rw [List.take_succ_eq_append_getElem hlt]
            have hmem := List.getElem_mem hlt
            generalize hr : p.rs[k] = r at c1 c2 hspk htk hmem
            obtain ⟨sp, c⟩ := r
            dsimp only at c1 c2 hspk
            have hsp0 := hspk.1
            have hsp1 := hspk.2
            have HTk := hide htk
            have HMr := hide hmem
            clear hr htk hmem hspk
            have hb1 : Below wr.heap.size wr (wr.alloc (.cells #[.int .u32 sp, .int .i64 c] 46)) := (Below.refl _ _).alloc (Nat.le_refl _) _
            have hIn0 : InSt w p (some ⟨b, off, none⟩) PA rc pc wr.heap.size sp c [] 0 ((wr.alloc (.cells #[.int .u32 sp, .int .i64 c] 46)).alloc (.map #[] 0)) := by
              have hz : (wr.alloc (.cells #[.int .u32 sp, .int .i64 c] 46)).heap.size = wr.heap.size + 1 := by simp
              have hw := Whole.new wr [.int .u32 sp, .int .i64 c] 46
              have hm := World.ownsMap_made (wr.alloc (.cells #[.int .u32 sp, .int .i64 c] 46)) Tryd.prog 28 (plainElem (H := Unit) Tryd.prog 4)
              rw [hz] at hm
              exact ⟨hm, hw.below ((Below.refl _ _).alloc (Nat.le_refl _) _) (by omega), (HK.out.below hb1).below ((Below.refl _ _).alloc (Nat.le_refl _) _), hszr⟩
            have HIn0 := hide hIn0
            clear hb1 hIn0
            obtain ⟨wo, hwo⟩ : ∃ wo, wo = wr := ⟨_, rfl⟩
            subst hwo
            go_wp2_with fail
            go_loopw [15, 17] (fun f i w3 => ∃ j : Nat, j ≤ ss.length ∧ i = .int .i64 j ∧ f = .bool (firstTo (bss ss) sp nm.data.toList j) ∧ InSt w p (some ⟨b, off, none⟩) PA rc pc wo.heap.size sp c (keysTo (bss ss) sp nm.data.toList j) j w3) (fun _ i _ => ss.length - (intOf i).toNat)
            case atStart => exact ⟨0, Nat.zero_le _, rfl, rfl, HIn0.out⟩
            case round =>
              obtain ⟨j, hj, rfl, rfl, hin⟩ := hrel
              have HIn := hide hin
              have cSp := hin.rule.cell 0
              have cC := hin.rule.cell 1
              clear hin
              by_cases hjl : j < ss.length
              · obtain ⟨b2, off2, rfl, hb2, hcs⟩ := HMem.out.get (by rw [strs_len]; omega)
                have hcj := ((HMem.out.below HIn.out.kst.bel).get (by rw [strs_len]; omega))
                have hck : wr.cell? ⟨b2, off2 + j, none⟩ = some (.string ss[j]) := by
                  obtain ⟨b3, off3, e, _, h3⟩ := hcj
                  have := h3 j (by rw [strs_len]; exact hjl)
                  rw [strs_get ss j hjl] at this
                  injection e with e
                  injection e with e1 e2
                  subst e1 e2
                  exact this
                have hb3 : b2 < wr.heap.size := by have := HIn.out.kst.bel.size; omega
                have hsz := HS.out _ (List.getElem_mem hjl)
                have hN := fun W => hide (refStamp_any ss[j] W hsz)
                have hNw := fun W => hide (newer_any ss[j] nm W hsz HNM.out)
                have hF := firstTo_step (bss ss) sp nm.data.toList j (by rw [bss_len]; exact hjl)
                have hKy := keysTo_step (bss ss) sp nm.data.toList j (by rw [bss_len]; exact hjl)
                rw [bss_get ss j hjl] at hF hKy
                unfold Pl.per at hF hKy
                rw [HX.out] at hF hKy
                have hx2 : Pl.st ss[j].data.toList < 1000000000 := st_lt _
                clear hcs hcj
                generalize firstTo (bss ss) sp nm.data.toList j = f0 at *
                generalize keysTo (bss ss) sp nm.data.toList j = ks at *
                generalize Pl.has ss[j].data.toList = h2 at *
                generalize Pl.st ss[j].data.toList = x2 at *
                generalize Pl.newer ss[j].data.toList nm.data.toList = nb at *
                have hq0 : 0 ≤ (x : Int) / sp := Int.ediv_nonneg (by omega) (by omega)
                have hq1 : (x : Int) / sp ≤ 4294967295 := Int.le_trans (Int.ediv_le_self _ (by omega)) (by have := HLt.out; omega)
                have hq2 : 0 ≤ (x2 : Int) / sp := Int.ediv_nonneg (by omega) (by omega)
                have hq3 : (x2 : Int) / sp ≤ 4294967295 := Int.le_trans (Int.ediv_le_self _ (by omega)) (by omega)
                have HF := hide hF
                have HKy := hide hKy
                clear hF hKy
                cases h2
                · go_wp2_with (go_at_call 9; refine (hN _).out.mono ?_; rintro e w' ⟨rfl, rfl⟩)
                  go_roundw
                  case rel =>
                    refine ⟨j + 1, by omega, by go_num, by rw [HF.out]; simp, ?_⟩
                    rw [HKy.out]
                    simpa using ⟨HIn.out.map.mono (by omega), HIn.out.rule, HIn.out.kst, HIn.out.lo⟩
                  case measure => simp [intOf]; omega
                · go_wp2_with (go_at_call 9; refine (hN _).out.mono ?_; rintro e w' ⟨rfl, rfl⟩)
                  have HInN := fun n => hide (HIn.out.drewN n (Nat.le_refl _))
                  have HWf := hide (wf_div hx2 hsp0)
                  rcases Int.lt_trichotomy ((x2 : Int) / sp) ((x : Int) / sp) with hq | hq | hq
                  · have hne : ((x2 : Int) / sp != (x : Int) / sp) = true := by simp; omega
                    have hgt : ¬ (x : Int) / sp < (x2 : Int) / sp := by omega
                    have HQ := hide hq
                    clear hq
                    cases f0
                    · go_quiet (fail)
                      go_wp2_with fail
                      go_quiet (fail)
                      go_wp2_with fail
                      go_roundw
                      case rel =>
                        have hx : ¬ (x : Int) / sp < (x2 : Int) / sp := by have := HQ.out; omega
                        refine ⟨j + 1, by omega, by go_num, by rw [HF.out]; simp, ?_⟩
                        rw [HKy.out]
                        simpa [hx] using HIn.out.drewN _ (Nat.le_succ j)
                      case measure => simp [intOf]; omega
                    · go_quiet (fail)
                      go_wp2_with fail
                      go_quiet (fail)
                      go_wp2_with fail
                      go_roundw
                      case rel =>
                        have hx : ¬ (x : Int) / sp < (x2 : Int) / sp := by have := HQ.out; omega
                        have hy : ¬ (x2 : Int) / sp = (x : Int) / sp := by have := HQ.out; omega
                        refine ⟨j + 1, by omega, by go_num, by rw [HF.out]; simp [hy], ?_⟩
                        rw [HKy.out]
                        simpa [hx] using HIn.out.drewN _ (Nat.le_succ j)
                      case measure => simp [intOf]; omega
                  · have hne : ((x2 : Int) / sp != (x : Int) / sp) = false := by rw [hq]; simp
                    have hgt : ¬ (x : Int) / sp < (x2 : Int) / sp := by omega
                    have HQ := hide hq
                    clear hq
                    cases f0
                    · go_quiet (fail)
                      go_wp2_with fail
                      go_quiet (fail)
                      go_wp2_with fail
                      go_roundw
                      case rel =>
                        have hx : ¬ (x : Int) / sp < (x2 : Int) / sp := by have := HQ.out; omega
                        have hy := HQ.out
                        refine ⟨j + 1, by omega, by go_num, by rw [HF.out]; simp [hy], ?_⟩
                        rw [HKy.out]
                        simpa [hx] using HIn.out.drewN _ (Nat.le_succ j)
                      case measure => simp [intOf]; omega
                    · go_quiet (first | (go_at_call 40; refine Calls.quiet_of_same ((hNw _).out.mono fun _ _ h => ⟨h.1, h.2.symm⟩)))
                      go_wp2_with fail
                      go_quiet (fail)
                      go_wp2_with fail
                      go_roundw
                      case rel =>
                        have hx : ¬ (x : Int) / sp < (x2 : Int) / sp := by have := HQ.out; omega
                        have hy := HQ.out
                        refine ⟨j + 1, by omega, by go_num, by rw [HF.out]; simp [hy], ?_⟩
                        rw [HKy.out]
                        simpa [hx] using HIn.out.drewN _ (Nat.le_succ j)
                      case measure => simp [intOf]; omega
                  · have hne : ((x2 : Int) / sp != (x : Int) / sp) = true := by simp; omega
                    have hgt : (x : Int) / sp < (x2 : Int) / sp := hq
                    have HQ := hide hq
                    clear hq
                    cases f0
                    · go_quiet (fail)
                      go_wp2_with fail
                      go_quiet (fail)
                      go_wp2_with (at_mapUpdate; refine wpList_mapUpdate_own _ rfl _ _ _ 80 rfl 28 4 (Maps.int_keyed Tryd.underlying28) Tryd.underlying80 _ (wo.heap.size + 1) j _ rfl (HInN _).out.map (by unfold maxLen; omega) _ _ _ rfl rfl (Maps.keyOf_int_mk Tryd.underlying28 HWf.out) _ [] (plainElem_bool Tryd.underlying4 true) ?_; intro w1 hown1 hgrow1; have HIn1 := hide ((HInN _).out.grow hown1 hgrow1); clear hown1 hgrow1)
                      go_roundw
                      case rel =>
                        have hx := HQ.out
                        refine ⟨j + 1, by omega, by go_num, by rw [HF.out]; simp, ?_⟩
                        rw [HKy.out]
                        simpa [hx] using HIn1.out
                      case measure => simp [intOf]; omega
                    · go_quiet (fail)
                      go_wp2_with fail
                      go_quiet (fail)
                      go_wp2_with (at_mapUpdate; refine wpList_mapUpdate_own _ rfl _ _ _ 80 rfl 28 4 (Maps.int_keyed Tryd.underlying28) Tryd.underlying80 _ (wo.heap.size + 1) j _ rfl (HInN _).out.map (by unfold maxLen; omega) _ _ _ rfl rfl (Maps.keyOf_int_mk Tryd.underlying28 HWf.out) _ [] (plainElem_bool Tryd.underlying4 true) ?_; intro w1 hown1 hgrow1; have HIn1 := hide ((HInN _).out.grow hown1 hgrow1); clear hown1 hgrow1)
                      go_roundw
                      case rel =>
                        have hx := HQ.out
                        have hy : ¬ (x2 : Int) / sp = (x : Int) / sp := by have := HQ.out; omega
                        refine ⟨j + 1, by omega, by go_num, by rw [HF.out]; simp [hy], ?_⟩
                        rw [HKy.out]
                        simpa [hx] using HIn1.out
                      case measure => simp [intOf]; omega
              · obtain rfl : j = ss.length := by omega
                have hF := firstTo_end (bss ss) sp nm.data.toList
                have hL := keysTo_end (bss ss) sp nm.data.toList
                rw [bss_len] at hF hL
                have hMs := setK_size (keysTo (bss ss) sp nm.data.toList ss.length)
                rw [hL] at hMs
                have hlen : Pl.later (bss ss) sp nm.data.toList ≤ 1000 := by
                  have h1 := (HIn.out.map).size_le
                  omega
                have HMap := hide HIn.out.map
                rw [hF]
                have hRB : Pl.ruleB (bss ss) nm.data.toList (sp, c) = (Pl.first (bss ss) sp nm.data.toList && decide ((Pl.later (bss ss) sp nm.data.toList : Int) < c)) := rfl
                generalize Pl.first (bss ss) sp nm.data.toList = f0 at *
                generalize Pl.later (bss ss) sp nm.data.toList = la at *
                generalize keysTo (bss ss) sp nm.data.toList ss.length = ks at *
                have HRB := hide hRB
                have HMs := hide hMs
                clear hF hL hMs hRB
                cases f0
                · go_wp2_with fail
                  go_roundw
                  case rel =>
                    refine ⟨k + 1, by omega, by go_num, fun r hr => ?_, HIn.out.kst⟩
                    rw [HTk.out, List.mem_append, List.mem_singleton] at hr
                    rcases hr with hr | rfl
                    · exact HNo.out r hr
                    · rw [HRB.out]; rfl
                  case measure => simp [intOf]; omega
                · by_cases hlc : (la : Int) < c
                  · go_wp2_with (at_len; refine wpList_len_guard _ rfl _ 80 rfl 28 4 Tryd.underlying80 _ (wo.heap.size + 1) ss.length _ rfl HMap.out ?_; rw [HMs.out])
                    go_ret
                    exact ⟨ret_bool (kept_true_rule HMr.out (by rw [HRB.out]; simpa using hlc)).symm, HIn.out.kst.bel⟩
                  · go_wp2_with (at_len; refine wpList_len_guard _ rfl _ 80 rfl 28 4 Tryd.underlying80 _ (wo.heap.size + 1) ss.length _ rfl HMap.out ?_; rw [HMs.out])
                    go_roundw
                    case rel =>
                      refine ⟨k + 1, by omega, by go_num, fun r hr => ?_, HIn.out.kst⟩
                      rw [HTk.out, List.mem_append, List.mem_singleton] at hr
                      rcases hr with hr | rfl
                      · exact HNo.out r hr
                      · rw [HRB.out]; simpa using hlc
                    case measure => simp [intOf]; omega
          · obtain rfl : k = p.rs.length := by omega
            go_wp2
            go_ret
            rw [List.take_length] at HNo
            exact ⟨ret_bool (hKF.out HNo.out).symm, HK.out.bel⟩
end Go.Proofs.YtbajnkkekibdmaaDoor
