/- 'armariumlaw39.FenceFits' answers true for every number of sectors and every configuration, and what came in reads as it did; the card that ties the listed tables to the program's text. CONDITION, as the row has it: the tables of package crc and of math/bits hold what the program's text lays. -/
import Derived.Test.YtccnihdkjcjeoaaGreatDoorQ9
import Derived.Test.YtccnihdkjcjeoaaGreatDoorCards
import Derived.Test.YtccnihdkjcjeoaaGreatDoorTie
import Derived.Stop.LaidErr
import Derived.WalkKit
import Derived.ProofKit
import Derived.OpenShut
import Derived.Carry
import Derived.ChangeSame
import Derived.Deep.DeepHandedRow
import Derived.Lib.LaidTab
import Derived.Lib.SmallJoins
namespace Go.Proofs.YtccnihdkjcjeoaaGreatDoor
open Go.RowKit Go.Shelf

set_option maxHeartbeats 1000000 in
theorem is_none (bd n : Nat) (F : Nat → Prop) (c : Nat → List Int) (m : Nat) (xs : Nat → Option Hd) (W : World) (hd : Ds W bd n F c m) (hm : m ≤ 100000) (hn : 2 ≤ n)
    (hx : ∀ i, i < 2 → HdIs (c i) (xs i)) (hb : bestTo xs 2 = none) (ht : Tab W) :
    Calls Tryz.prog 15 #[.pointer (some ⟨bd, 0, none⟩)] W (fun e W' => e = .returned (.tuple #[.bool false, .int .i64 0]) ∧ Below W.heap.size W W') := by
  have HL := hide (look_none bd n F c m xs W hd hm hn hx hb ht)
  clear hd hx hb ht
  unfold shpV shC at HL
  go_enter Tryz.func15, Tryz.ntmps15
  go_wp2_with fail
  refine HL.out.mono ?_
  rintro e w1 ⟨rfl, hb⟩
  have HB := hide (hb.alloc hb.size (.cells #[.int .i64 0, .int .i64 0, .int .i64 0, .int .i64 0, .int .i64 0] 38))
  clear hb
  go_wp2_with fail
  exact bodyPost_ret (v := .tuple #[.bool false, .int .i64 0]) (by simp [results, Tryz.results15, go_sem]) rfl ⟨rfl, HB.out⟩
theorem best185 : bestV 185 = .tuple #[.agg #[.int .i64 96, .int .i64 72, .int .i64 3], .bool true] := by
  have h : down 185 200 = 3 := by decide +kernel
  unfold bestV
  rw [h]
  rfl
theorem best184 : bestV 184 = .tuple #[.agg #[.int .i64 0, .int .i64 0, .int .i64 0], .bool false] := by
  have h : down 184 200 = 0 := by decide +kernel
  unfold bestV
  rw [h]
  rfl
theorem vformat_ok (bd n : Nat) (F : Nat → Prop) (c : Nat → List Int) (m L P K : Nat) (W : World) (h : Ds W bd n F c m) (hm : m ≤ 10) (hc : ∀ i, c i = zeros 512)
    (ht : Tab W) (htz : TabZ W) (hF : ∀ k, F k → 2 ≤ k) (hW : 2 ≤ W.heap.size) (hL : 96 ≤ L ∧ L ≤ 512) (hP : 64 ≤ P ∧ P ≤ 1024) (hK : 3 ≤ K ∧ K ≤ 200) (hn : 2 + L + P + 5 * K ≤ n) :
    Calls Tryz.prog 11 #[.pointer (some ⟨bd, 0, none⟩), .agg #[.int .i64 (L : Int), .int .i64 (P : Int), .int .i64 (K : Int)]] W (DsRes bd n F (finC c L P (numS K)) 0 W) := by
  refine (vformat_any bd n F c m L P K W h hm hc ht htz hF hW).mono fun e w' hr => ?_
  rcases hr with ⟨hb, _⟩ | ⟨L', P', K', h1, h2, h3, h4, h5, h6, h7, hr⟩
  · exact absurd hb (by unfold BArg; omega)
  · obtain rfl : L = L' := by omega
    obtain rfl : P = P' := by omega
    obtain rfl : K = K' := by omega
    rcases hr with ⟨_, _, hr⟩ | ⟨hb, _⟩
    · exact hr
    · exact absurd ⟨hL.1, hP.1⟩ hb
/-- a disk that is new -/
theorem dnew_ds (n : Nat) (W : World) (h1 : 1 ≤ n) (h2 : n ≤ 4096) : Calls Tryz.prog 10 #[.int .i64 n] W fun e w' => ∃ bd F, e = .returned (.tuple #[.pointer (some ⟨bd, 0, none⟩), .int .i64 0]) ∧ Ds w' bd n F (fun _ => zeros 512) 0 ∧ Below W.heap.size W w' ∧ ∀ k, F k → W.heap.size ≤ k := by
  refine (dnew_any n W h1 h2).mono ?_
  rintro e w' ⟨bd, bon, rfl, hd, hb, hl1, hl2⟩
  refine ⟨bd, dkF bd bon (.slice none 0 0), rfl, ⟨bon, _, _, [], 0, hd, rfl, Nat.le_refl _, rfl⟩, hb, fun k hk => ?_⟩
  rcases hk with rfl | rfl | h
  · exact hl1
  · exact hl2
  · cases h
/-- what lies in memory while wakes goes on -/
structure WkW (W w : World) (b1 bd : Nat) (F : Nat → Prop) (c : Nat → List Int) : Prop where
  cfg : Whole w b1 23 [.int .i64 96, .int .i64 72, .int .i64 3]
  ds : Ds w bd 190 F c 0
  bel : Below W.heap.size W w
  tab : Tab w
  tabz : TabZ w
theorem tab_below {W w : World} (h : Tab W) (hb : Below W.heap.size W w) : Tab w := h.below hb
theorem tabz_below {W w : World} (h : TabZ W) (hb : Below W.heap.size W w) : TabZ w := h.kp (F := NoF) (Kp.of_below hb) (fun h => h)
theorem WkW.below {W w w' : World} {b1 bd : Nat} {F : Nat → Prop} {c : Nat → List Int} (h : WkW W w b1 bd F c) (hb : Below w.heap.size w w') : WkW W w' b1 bd F c :=
  ⟨h.cfg.below hb h.cfg.lt, h.ds.below hb, h.bel.trans (hb.mono h.bel.size), tab_below h.tab hb, tabz_below h.tabz hb⟩
theorem zeros_hd (i : Nat) (_ : i < 2) : HdIs ((fun _ => zeros 512 : Nat → List Int) i) ((fun _ => none : Nat → Option Hd) i) := hd_zeros
set_option maxHeartbeats 4000000 in
set_option maxRecDepth 20000 in
theorem wakes_any (W : World) (ht : Tab W) (htz : TabZ W) (hW : 2 ≤ W.heap.size) : Calls Tryz.prog 9 #[] W fun e w' => e = .returned (.bool true) ∧ Below W.heap.size W w' := by
  have HT := hide ht
  have HTz := hide htz
  clear ht htz
  have HBest1 := fun w => hide (fbest_any 185 w)
  have HBest2 := fun w => hide (fbest_any 184 w)
  rw [best185] at HBest1
  rw [best184] at HBest2
  go_enter Tryz.func9, Tryz.ntmps9
  go_wp2_with fail
  refine (HBest1 _).out.mono ?_
  rintro e w1 ⟨rfl, hb⟩
  have hx2 := Whole.new w1 [.int .i64 96, .int .i64 72, .int .i64 3] 23
  have HB2 := hide (hb.alloc hb.size (.cells #[.int .i64 96, .int .i64 72, .int .i64 3] 23))
  have HX2 := hide hx2
  clear hb hx2
  go_wp2_with fail
  change Calls _ _ _ (w1.alloc (.cells [.int .i64 96, .int .i64 72, .int .i64 3].toArray 23)) _
  change Hid (Below W.heap.size W (w1.alloc (.cells [.int .i64 96, .int .i64 72, .int .i64 3].toArray 23))) at HB2
  generalize w1.alloc (.cells [.int .i64 96, .int .i64 72, .int .i64 3].toArray 23) = w2 at *
  generalize w1.heap.size = b1 at *
  refine (HBest2 _).out.mono ?_
  rintro e w3 ⟨rfl, hb⟩
  have hal : Below w2.heap.size w2 (w3.alloc (.cells #[.int .i64 0, .int .i64 0, .int .i64 0] 23)) := hb.alloc hb.size _
  have HX4 := hide (HX2.out.below hal HX2.out.lt)
  have HB4 := hide (HB2.out.trans (hal.mono HB2.out.size))
  clear hb hal HX2 HB2 HBest1 HBest2
  go_wp2_with fail
  generalize w3.alloc (.cells #[.int .i64 0, .int .i64 0, .int .i64 0] 23) = w4 at *
  refine (dnew_ds 190 w4 (by decide) (by decide)).mono ?_
  rintro e w5 ⟨bd, F, rfl, hd, hb, hF⟩
  have HF := hide hF
  have hsz4 := HB4.out.size
  have HK5 := hide (show WkW W w5 b1 bd F (fun _ => zeros 512) from ⟨HX4.out.below hb HX4.out.lt, hd, HB4.out.trans (hb.mono HB4.out.size), tab_below HT.out (HB4.out.trans (hb.mono HB4.out.size)), tabz_below HTz.out (HB4.out.trans (hb.mono HB4.out.size))⟩)
  have hb14 := HX4.out.lt
  clear hd hb hF HX4 HB4
  go_wp2_with fail
  have HLk := hide (look_none bd 190 F _ 0 _ w5 HK5.out.ds (by decide) (by decide) zeros_hd rfl HK5.out.tab)
  unfold shpV shC at HLk
  refine HLk.out.mono ?_
  rintro e w6 ⟨rfl, hb⟩
  have HK7 := hide (HK5.out.below (hb.alloc hb.size (.cells #[.int .i64 0, .int .i64 0, .int .i64 0, .int .i64 0, .int .i64 0] 38)))
  clear hb HLk
  go_wp2_with fail
  generalize w6.alloc (.cells #[.int .i64 0, .int .i64 0, .int .i64 0, .int .i64 0, .int .i64 0] 38) = w7 at *
  refine (is_none bd 190 F _ 0 _ w7 HK7.out.ds (by decide) (by decide) zeros_hd rfl HK7.out.tab).mono ?_
  rintro e w8 ⟨rfl, hb⟩
  have HK8 := hide (HK7.out.below hb)
  clear hb HK5 HK7
  have y0 := HK8.out.cfg.cell 0
  have y1 := HK8.out.cfg.cell 1
  have y2 := HK8.out.cfg.cell 2
  simp only [List.getElem?_cons_zero, List.getElem?_cons_succ] at y0 y1 y2
  go_wp2_with fail
  have HFm := hide (vformat_ok bd 190 F _ 0 96 72 3 w8 HK8.out.ds (by decide) (fun _ => rfl) HK8.out.tab HK8.out.tabz (fun k hk => by have := HF.out k hk; omega) (Nat.le_trans hW HK8.out.bel.size) (by decide) (by decide) (by decide) (by decide))
  refine HFm.out.mono ?_
  rintro e w9 ⟨rfl, F', g1, g2, g3⟩
  have hnb : ¬ F b1 := fun hf => by have := HF.out _ hf; omega
  have HK9 := hide (show WkW W w9 b1 bd F' _ from ⟨HK8.out.cfg.kp g2 hnb, g1, HK8.out.bel.trans (g2.below HK8.out.bel.size (fun i hi => Nat.le_trans hsz4 (HF.out i hi))), HK8.out.tab.kp g2 (fun hf => by have := HF.out _ hf; omega), HK8.out.tabz.kp g2 (fun hf => by have := HF.out _ hf; omega)⟩)
  clear g1 g2 g3 y0 y1 y2 HFm
  go_wp2_with fail
  have HLk := hide (look_fin bd 190 F' _ 0 96 72 3 w9 HK9.out.ds (by decide) (by decide) (fun _ => rfl) HK9.out.tab (by decide) (by decide) (by decide) (by decide))
  refine HLk.out.mono ?_
  rintro e wa ⟨⟨q, hq, rfl⟩, hb⟩
  have hsh : shpV ((96 : Nat) : Int) ((72 : Nat) : Int) ((3 : Nat) : Int) (((190 : Nat) : Int) - 2 - ((96 : Nat) : Int) - ((72 : Nat) : Int) - 5 * ((3 : Nat) : Int)) (q : Int) = .agg #[.int .i64 96, .int .i64 72, .int .i64 3, .int .i64 5, .int .i64 q] := rfl
  rw [hsh]
  clear hsh HLk
  obtain ⟨qq, hqq⟩ : ∃ qq : Int, qq = (q : Int) := ⟨_, rfl⟩
  rw [← hqq]
  have d1 : decide (0 ≤ qq) = true := decide_eq_true (by omega)
  have d2 : decide (qq ≤ 96) = true := decide_eq_true (by omega)
  clear hqq hq
  have HXb := hide (Whole.new wa [.int .i64 96, .int .i64 72, .int .i64 3, .int .i64 5, .int .i64 qq] 38)
  have HKb := hide ((HK9.out.below hb).below ((Below.refl wa.heap.size wa).alloc (Nat.le_refl _) (.cells [.int .i64 96, .int .i64 72, .int .i64 3, .int .i64 5, .int .i64 qq].toArray 38)))
  have hb1a := (HK9.out.below hb).cfg.lt
  have hFa : ∀ k, F' k → k < wa.heap.size := fun k hk => (HK9.out.below hb).ds.lt hk
  have hWa := (HK9.out.below hb).bel.size
  clear hb HK9 HK8
  go_upto_region 10 with fail
  change Code.wp _ _ _ _ (wa.alloc (.cells [.int .i64 96, .int .i64 72, .int .i64 3, .int .i64 5, .int .i64 qq].toArray 38))
  generalize wa.alloc (.cells [.int .i64 96, .int .i64 72, .int .i64 3, .int .i64 5, .int .i64 qq].toArray 38) = wb at *
  generalize wa.heap.size = bx at *
  have y4 := HXb.out.cell 4
  have x4 := HXb.out.frozen 4
  simp only [List.getElem?_cons_zero, List.getElem?_cons_succ] at y4
  go_upto_region 12 with fail
  have hxc := HXb.out.set_ 4 (.int .i64 0)
  simp only [List.set_cons_succ, List.set_cons_zero] at hxc
  have hkc : Kp (OnlyF bx) wb (wb.setCell ⟨bx, 4, none⟩ (.int .i64 0)) := Kp.set_only _ _ _ _
  have HCc := hide (HKb.out.cfg.kp hkc (fun e => by have e : b1 = bx := e; omega))
  have HBc := hide (HKb.out.bel.trans (hkc.below HKb.out.bel.size (fun i hi => by have hi : i = bx := hi; omega)))
  have HXc := hide hxc
  clear hxc hkc y4 x4 HXb HKb
  generalize wb.setCell ⟨bx, 4, none⟩ (.int .i64 0) = wc at *
  have z0 := HXc.out.cell 0
  have z1 := HXc.out.cell 1
  have z2 := HXc.out.cell 2
  have z3 := HXc.out.cell 3
  have z4 := HXc.out.cell 4
  have y0 := HCc.out.cell 0
  have y1 := HCc.out.cell 1
  have y2 := HCc.out.cell 2
  simp only [List.getElem?_cons_zero, List.getElem?_cons_succ] at z0 z1 z2 z3 z4 y0 y1 y2
  go_wp2_with fail
  go_ret
  exact ⟨rfl, HBc.out⟩
end Go.Proofs.YtccnihdkjcjeoaaGreatDoor
namespace Go.Proofs.YtccnihdkjcjeoaaGreatDoor
open Go.RowKit Go.Shelf

theorem vformat_fits (bd N : Nat) (F : Nat → Prop) (c : Nat → List Int) (m : Nat) (l p k : Int) (W : World) (h : Ds W bd N F c m) (hm : m ≤ 10) (hc : ∀ i, c i = zeros 512)
    (ht : Tab W) (htz : TabZ W) (hF : ∀ k, F k → 2 ≤ k) (hW : 2 ≤ W.heap.size) (hN : 1 ≤ N ∧ N ≤ 4096) :
    Calls Tryz.prog 11 #[.pointer (some ⟨bd, 0, none⟩), .agg #[.int .i64 l, .int .i64 p, .int .i64 k]] W (fun e w' => ((e = .returned (.int .i64 0) ∧ fitB N l p k = true) ∨ (e = .returned (.int .i64 2) ∧ fitB N l p k = false)) ∧ Kp F W w') := by
  refine (vformat_any bd N F c m l p k W h hm hc ht htz hF hW).mono fun e w' hr => ?_
  rcases hr with ⟨hb, rfl, hb2⟩ | ⟨L, P, K, rfl, rfl, rfl, h4, h5, h6, h7, hr⟩
  · exact ⟨.inr ⟨rfl, decide_eq_false (by unfold BArg at hb; omega)⟩, Kp.of_below hb2⟩
  · rcases hr with ⟨h8, h9, rfl, F', _, hk, _⟩ | ⟨h8, rfl, hb⟩
    · exact ⟨.inl ⟨rfl, decide_eq_true (by omega)⟩, hk⟩
    · exact ⟨.inr ⟨rfl, decide_eq_false (by omega)⟩, Kp.of_below hb⟩
/-- what lies in memory while the law goes on -/
structure FtW (W w : World) (b3 : Nat) (l p k : Int) : Prop where
  cfg : Whole w b3 23 [.int .i64 l, .int .i64 p, .int .i64 k]
  bel : Below W.heap.size W w
theorem FtW.below {W w w' : World} {b3 : Nat} {l p k : Int} (h : FtW W w b3 l p k) (hb : Below w.heap.size w w') : FtW W w' b3 l p k := ⟨h.cfg.below hb h.cfg.lt, h.bel.trans (hb.mono h.bel.size)⟩
set_option maxHeartbeats 4000000 in
set_option maxRecDepth 20000 in
theorem fenceFits_any (n l p k : Int) (W : World) (ht : Tab W) (htz : TabZ W) (hW : 2 ≤ W.heap.size) : Calls Tryz.prog 3 #[.int .i64 n, .agg #[.int .i64 l, .int .i64 p, .int .i64 k]] W fun e w' => e = .returned (.bool true) ∧ Below W.heap.size W w' := by
  have HWk := hide (show ∀ w, Below W.heap.size W w → Calls Tryz.prog 9 #[] w fun e w' => e = .returned (.bool true) ∧ Below w.heap.size w w' from fun w hb => wakes_any w (tab_below ht hb) (tabz_below htz hb) (Nat.le_trans hW hb.size))
  have HVf := hide (show ∀ (bd N : Nat) (F : Nat → Prop) (w : World), Below W.heap.size W w → Ds w bd N F (fun _ => zeros 512) 0 → (∀ k, F k → W.heap.size ≤ k) → 1 ≤ N ∧ N ≤ 4096 → Calls Tryz.prog 11 #[.pointer (some ⟨bd, 0, none⟩), .agg #[.int .i64 l, .int .i64 p, .int .i64 k]] w (fun e w' => ((e = .returned (.int .i64 0) ∧ fitB N l p k = true) ∨ (e = .returned (.int .i64 2) ∧ fitB N l p k = false)) ∧ Kp F w w') from
    fun bd N F w hb hd hF hN => vformat_fits bd N F _ 0 l p k w hd (by decide) (fun _ => rfl) (tab_below ht hb) (tabz_below htz hb) (fun k hk => Nat.le_trans hW (hF k hk)) (Nat.le_trans hW hb.size) hN)
  have HBest := fun w => hide (fbest_any n w)
  have HRb := fun w => hide (rbest_any n w)
  have HPg := fun w => hide (rpages_any (down n 200 : Nat) w (by omega) (by have := down_le n 200; omega))
  have HRf := fun w => hide (rfits_any n l p k w)
  have HFf := fun w => hide (ffits_any n l p k w)
  have HV := hide (show bestV n = if down n 200 = 0 then .tuple #[cfgV 0 0 0, .bool false] else .tuple #[cfgV 96 (pgs (down n 200 : Nat)) (down n 200 : Nat), .bool true] from rfl)
  have HFit := hide (show ∀ N : Nat, n = N → fitB N l p k = fitB n l p k from fun N h => by rw [h])
  clear ht htz hW
  generalize fitB n l p k = may at *
  generalize bestV n = V at *
  generalize down n 200 = D at *
  have HC1 := hide (show FtW W (W.alloc (.cells [.int .i64 l, .int .i64 p, .int .i64 k].toArray 23)) W.heap.size l p k from ⟨Whole.new W _ _, (Below.refl _ _).alloc (Nat.le_refl _) _⟩)
  go_enter Tryz.func3, Tryz.ntmps3
  go_upto_region 1 with fail
  change Code.wp _ _ _ _ (W.alloc (.cells [.int .i64 l, .int .i64 p, .int .i64 k].toArray 23))
  generalize W.alloc (.cells [.int .i64 l, .int .i64 p, .int .i64 k].toArray 23) = w1 at *
  go_wp2_with fail
  refine (HBest _).out.mono ?_
  rintro e w2 ⟨rfl, hb⟩
  have HC2 := hide (HC1.out.below hb)
  clear hb HC1 HBest
  by_cases hD : D = 0
  · have HVal := hide (show V = .tuple #[.agg #[.int .i64 0, .int .i64 0, .int .i64 0], .bool false] from by rw [HV.out, if_pos hD]; rfl)
    subst hD
    rw [HVal.out]
    clear HV HVal HPg
    have HX3 := hide (Whole.new w2 [.int .i64 0, .int .i64 0, .int .i64 0] 23)
    have HC3 := hide (HC2.out.below ((Below.refl w2.heap.size w2).alloc (Nat.le_refl _) (.cells ([.int .i64 0, .int .i64 0, .int .i64 0] : List Value).toArray 23)))
    clear HC2
    go_wp2_with fail
    change Calls _ _ _ (w2.alloc (.cells ([.int .i64 0, .int .i64 0, .int .i64 0] : List Value).toArray 23)) _
    generalize w2.alloc (.cells ([.int .i64 0, .int .i64 0, .int .i64 0] : List Value).toArray 23) = w3 at *
    generalize w2.heap.size = b5 at *
    refine (HRb _).out.mono ?_
    rintro e w' ⟨rfl, rfl⟩
    have z0 := HX3.out.cell 0
    have z1 := HX3.out.cell 1
    have z2 := HX3.out.cell 2
    simp only [List.getElem?_cons_zero, List.getElem?_cons_succ] at z0 z1 z2
    go_upto_region 3 with fail
    go_quiet (fail)
    clear HX3 z0 z1 z2 HRb
    have HC4 := hide (show FtW W (w3.drewN nq) W.heap.size l p k from ⟨HC3.out.cfg.below (below_drewN (Below.refl w3.heap.size w3) nq) HC3.out.cfg.lt, below_drewN HC3.out.bel nq⟩)
    clear HC3
    generalize w3.drewN nq = w4 at *
    have y0 := HC4.out.cfg.cell 0
    have y1 := HC4.out.cfg.cell 1
    have y2 := HC4.out.cfg.cell 2
    simp only [List.getElem?_cons_zero, List.getElem?_cons_succ] at y0 y1 y2
    go_wp2_with fail
    refine (HRf _).out.mono ?_
    rintro e w' ⟨rfl, rfl⟩
    go_wp2_with fail
    refine (HFf _).out.mono ?_
    rintro e w5 ⟨rfl, hb⟩
    have HC5 := hide (HC4.out.below hb)
    clear hb HC4 y0 y1 y2
    by_cases c1 : n < 1
    · have d1 : decide (n < 1) = true := decide_eq_true c1
      have y0 := HC5.out.cfg.cell 0
      have y1 := HC5.out.cfg.cell 1
      have y2 := HC5.out.cfg.cell 2
      simp only [List.getElem?_cons_zero, List.getElem?_cons_succ] at y0 y1 y2
      go_wp2_with fail
      refine (HFf _).out.mono ?_
      rintro e w6 ⟨rfl, hb⟩
      have HC6 := hide (HC5.out.below hb)
      clear hb HC5 y0 y1 y2
      go_wp2_with fail
      refine (HWk.out w6 HC6.out.bel).mono ?_
      rintro e w7 ⟨rfl, hb⟩
      have HB7 := hide (HC6.out.bel.trans (hb.mono HC6.out.bel.size))
      clear hb
      go_wp2_with fail
      go_ret
      exact ⟨rfl, HB7.out⟩
    · have d1 : decide (n < 1) = false := decide_eq_false c1
      by_cases c2 : 1500 < n
      · have d2 : decide (1500 < n) = true := decide_eq_true c2
        have y0 := HC5.out.cfg.cell 0
        have y1 := HC5.out.cfg.cell 1
        have y2 := HC5.out.cfg.cell 2
        simp only [List.getElem?_cons_zero, List.getElem?_cons_succ] at y0 y1 y2
        go_wp2_with fail
        refine (HFf _).out.mono ?_
        rintro e w6 ⟨rfl, hb⟩
        have HC6 := hide (HC5.out.below hb)
        clear hb HC5 y0 y1 y2
        go_wp2_with fail
        refine (HWk.out w6 HC6.out.bel).mono ?_
        rintro e w7 ⟨rfl, hb⟩
        have HB7 := hide (HC6.out.bel.trans (hb.mono HC6.out.bel.size))
        clear hb
        go_wp2_with fail
        go_ret
        exact ⟨rfl, HB7.out⟩
      · have d2 : decide (1500 < n) = false := decide_eq_false c2
        obtain ⟨N, rfl⟩ : ∃ N : Nat, n = N := ⟨n.toNat, by omega⟩
        have hfit := HFit.out N rfl
        go_wp2_with fail
        have HNew := hide (dnew_ds N w5 (by omega) (by omega))
        refine HNew.out.mono ?_
        rintro e w6 ⟨bd, F, rfl, hd, hb, hF⟩
        have HD6 := hide hd
        have hsz5 := HC5.out.bel.size
        have hlt5 := HC5.out.cfg.lt
        have HF := hide (show ∀ k, F k → W.heap.size ≤ k ∧ k ≠ W.heap.size from fun k hk => by have := hF k hk; omega)
        have HC6 := hide (HC5.out.below hb)
        clear hd hb hF HC5 HNew
        have y0 := HC6.out.cfg.cell 0
        have y1 := HC6.out.cfg.cell 1
        have y2 := HC6.out.cfg.cell 2
        simp only [List.getElem?_cons_zero, List.getElem?_cons_succ] at y0 y1 y2
        go_wp2_with fail
        refine (HVf.out bd N F w6 HC6.out.bel HD6.out (fun k hk => (HF.out k hk).1) (by omega)).mono ?_
        rintro e w7 ⟨hr, hk⟩
        have HB7 := hide (HC6.out.bel.trans (hk.below HC6.out.bel.size (fun i hi => (HF.out i hi).1)))
        clear hk HC6 HD6 y0 y1 y2
        rw [hfit] at hr
        clear hfit
        rcases hr with ⟨rfl, rfl⟩ | ⟨rfl, rfl⟩
        · go_wp2_with fail
          refine (HWk.out w7 HB7.out).mono ?_
          rintro e w8 ⟨rfl, hb⟩
          have HB8 := hide (HB7.out.trans (hb.mono HB7.out.size))
          clear hb
          go_wp2_with fail
          go_ret
          exact ⟨rfl, HB8.out⟩
        · go_wp2_with fail
          refine (HWk.out w7 HB7.out).mono ?_
          rintro e w8 ⟨rfl, hb⟩
          have HB8 := hide (HB7.out.trans (hb.mono HB7.out.size))
          clear hb
          go_wp2_with fail
          go_ret
          exact ⟨rfl, HB8.out⟩
  · have HVal := hide (show V = .tuple #[.agg #[.int .i64 96, .int .i64 (pgs (D : Int)), .int .i64 (D : Int)], .bool true] from by rw [HV.out, if_neg hD]; rfl)
    have hDp : decide (0 < (D : Int)) = true := decide_eq_true (by omega)
    generalize pgs (D : Int) = pg at *
    rw [HVal.out]
    clear HV HVal
    generalize (D : Int) = Dz at *
    have HX3 := hide (Whole.new w2 [.int .i64 96, .int .i64 pg, .int .i64 Dz] 23)
    have HC3 := hide (HC2.out.below ((Below.refl w2.heap.size w2).alloc (Nat.le_refl _) (.cells ([.int .i64 96, .int .i64 pg, .int .i64 Dz] : List Value).toArray 23)))
    clear HC2
    go_wp2_with fail
    change Calls _ _ _ (w2.alloc (.cells ([.int .i64 96, .int .i64 pg, .int .i64 Dz] : List Value).toArray 23)) _
    generalize w2.alloc (.cells ([.int .i64 96, .int .i64 pg, .int .i64 Dz] : List Value).toArray 23) = w3 at *
    generalize w2.heap.size = b5 at *
    refine (HRb _).out.mono ?_
    rintro e w' ⟨rfl, rfl⟩
    have z0 := HX3.out.cell 0
    have z1 := HX3.out.cell 1
    have z2 := HX3.out.cell 2
    simp only [List.getElem?_cons_zero, List.getElem?_cons_succ] at z0 z1 z2
    go_upto_region 3 with fail
    go_quiet (first | (go_at_call 6; refine Calls.quiet_of_same ((HPg _).out.mono fun _ _ h => ⟨h.1, h.2.symm⟩)))
    clear HX3 z0 z1 z2 HRb HPg
    have HC4 := hide (show FtW W (w3.drewN nq) W.heap.size l p k from ⟨HC3.out.cfg.below (below_drewN (Below.refl w3.heap.size w3) nq) HC3.out.cfg.lt, below_drewN HC3.out.bel nq⟩)
    clear HC3
    generalize w3.drewN nq = w4 at *
    have y0 := HC4.out.cfg.cell 0
    have y1 := HC4.out.cfg.cell 1
    have y2 := HC4.out.cfg.cell 2
    simp only [List.getElem?_cons_zero, List.getElem?_cons_succ] at y0 y1 y2
    go_wp2_with fail
    refine (HRf _).out.mono ?_
    rintro e w' ⟨rfl, rfl⟩
    go_wp2_with fail
    refine (HFf _).out.mono ?_
    rintro e w5 ⟨rfl, hb⟩
    have HC5 := hide (HC4.out.below hb)
    clear hb HC4 y0 y1 y2
    by_cases c1 : n < 1
    · have d1 : decide (n < 1) = true := decide_eq_true c1
      have y0 := HC5.out.cfg.cell 0
      have y1 := HC5.out.cfg.cell 1
      have y2 := HC5.out.cfg.cell 2
      simp only [List.getElem?_cons_zero, List.getElem?_cons_succ] at y0 y1 y2
      go_wp2_with fail
      refine (HFf _).out.mono ?_
      rintro e w6 ⟨rfl, hb⟩
      have HC6 := hide (HC5.out.below hb)
      clear hb HC5 y0 y1 y2
      go_wp2_with fail
      refine (HWk.out w6 HC6.out.bel).mono ?_
      rintro e w7 ⟨rfl, hb⟩
      have HB7 := hide (HC6.out.bel.trans (hb.mono HC6.out.bel.size))
      clear hb
      go_wp2_with fail
      go_ret
      exact ⟨rfl, HB7.out⟩
    · have d1 : decide (n < 1) = false := decide_eq_false c1
      by_cases c2 : 1500 < n
      · have d2 : decide (1500 < n) = true := decide_eq_true c2
        have y0 := HC5.out.cfg.cell 0
        have y1 := HC5.out.cfg.cell 1
        have y2 := HC5.out.cfg.cell 2
        simp only [List.getElem?_cons_zero, List.getElem?_cons_succ] at y0 y1 y2
        go_wp2_with fail
        refine (HFf _).out.mono ?_
        rintro e w6 ⟨rfl, hb⟩
        have HC6 := hide (HC5.out.below hb)
        clear hb HC5 y0 y1 y2
        go_wp2_with fail
        refine (HWk.out w6 HC6.out.bel).mono ?_
        rintro e w7 ⟨rfl, hb⟩
        have HB7 := hide (HC6.out.bel.trans (hb.mono HC6.out.bel.size))
        clear hb
        go_wp2_with fail
        go_ret
        exact ⟨rfl, HB7.out⟩
      · have d2 : decide (1500 < n) = false := decide_eq_false c2
        obtain ⟨N, rfl⟩ : ∃ N : Nat, n = N := ⟨n.toNat, by omega⟩
        have hfit := HFit.out N rfl
        go_wp2_with fail
        have HNew := hide (dnew_ds N w5 (by omega) (by omega))
        refine HNew.out.mono ?_
        rintro e w6 ⟨bd, F, rfl, hd, hb, hF⟩
        have HD6 := hide hd
        have hsz5 := HC5.out.bel.size
        have hlt5 := HC5.out.cfg.lt
        have HF := hide (show ∀ k, F k → W.heap.size ≤ k ∧ k ≠ W.heap.size from fun k hk => by have := hF k hk; omega)
        have HC6 := hide (HC5.out.below hb)
        clear hd hb hF HC5 HNew
        have y0 := HC6.out.cfg.cell 0
        have y1 := HC6.out.cfg.cell 1
        have y2 := HC6.out.cfg.cell 2
        simp only [List.getElem?_cons_zero, List.getElem?_cons_succ] at y0 y1 y2
        go_wp2_with fail
        refine (HVf.out bd N F w6 HC6.out.bel HD6.out (fun k hk => (HF.out k hk).1) (by omega)).mono ?_
        rintro e w7 ⟨hr, hk⟩
        have HB7 := hide (HC6.out.bel.trans (hk.below HC6.out.bel.size (fun i hi => (HF.out i hi).1)))
        clear hk HC6 HD6 y0 y1 y2
        rw [hfit] at hr
        clear hfit
        rcases hr with ⟨rfl, rfl⟩ | ⟨rfl, rfl⟩
        · go_wp2_with fail
          refine (HWk.out w7 HB7.out).mono ?_
          rintro e w8 ⟨rfl, hb⟩
          have HB8 := hide (HB7.out.trans (hb.mono HB7.out.size))
          clear hb
          go_wp2_with fail
          go_ret
          exact ⟨rfl, HB8.out⟩
        · go_wp2_with fail
          refine (HWk.out w7 HB7.out).mono ?_
          rintro e w8 ⟨rfl, hb⟩
          have HB8 := hide (HB7.out.trans (hb.mono HB7.out.size))
          clear hb
          go_wp2_with fail
          go_ret
          exact ⟨rfl, HB8.out⟩
end Go.Proofs.YtccnihdkjcjeoaaGreatDoor
namespace Go.Proofs.YtccnihdkjcjeoaaGreatDoor
open Go.ChangeShapes Go.WideShapes Go.ChangeAt Go.RowKit

theorem own : ownKnob Tryz.prog.godebug = none := by kernel_rfl
theorem laidOut : laidOutB Tryz.prog = true := by kernel_rfl

section
variable {H : Type} {enc : TypeId × Value → H} {W W' : World}
/-- the types of the parameters are read whole -/
noncomputable def readable (ts : List TypeId) : Bool := ts.all fun t => Tryz.prog.readableRec t && decide (t < Tryz.prog.types.size)
theorem all_again (hb : Below W.heap.size W W') {sp : Nat → Bool} (ts : List TypeId) : ∀ (vs : List Value) (ds : List (DataW H)) (ps : List MemPlace), readable ts = true → DataW.TrodAll enc Tryz.prog W 0 (fun _ => true) true ts vs ds ps →
    (∀ x ∈ ps, x.block < W.heap.size) → (∀ x ∈ ps, sp x.block = true) → DataW.TrodAll enc Tryz.prog W' 0 sp true ts vs ds ps := by
  induction ts with
  | nil =>
    intro vs ds ps _ h _ _
    obtain ⟨rfl, rfl, rfl⟩ := trodAll_nil h
    exact trodAll_mk0
  | cons t ts ih =>
    intro vs ds ps hr h hl hs
    obtain ⟨v, vs', d, ds', p, q, rfl, rfl, rfl, h1, h2⟩ := trodAll_cons h
    unfold readable at hr ih
    rw [List.all_cons, Bool.and_eq_true, Bool.and_eq_true, decide_eq_true_eq] at hr
    exact trodAll_cons_mk (WideElems.Trod_stays laidOut hr.1.1 hr.1.2 h1 (fun x hx => hb.same (hl x (List.mem_append_left _ hx))) (fun x hx => hs x (List.mem_append_left _ hx)))
      (ih _ _ _ hr.2 h2 (fun x hx => hl x (List.mem_append_right _ hx)) (fun x hx => hs x (List.mem_append_right _ hx)))

set_option maxRecDepth 100000 in
/-- The post of a law that answers true and turns nothing that stood. -/
theorem post_law {f : Func} {s : ChangeSpec} {apart fresh handsOn again : Bool} {args : Array Value} {ds gs : List (DataW H)} {before : List MemPlace} (hvars : s.vars = []) (hr : readable f.params.toList = true) (ht : f.resultTypes = #[4])
    (hres : (s.fn H (ds ++ gs)).results = [.lit (.bool true)]) (hargs : (s.fn H (ds ++ gs)).args = ds) (hvs : (s.fn H (ds ++ gs)).vars = [])
    (hW : DataW.Whole enc Tryz.prog f.params.toList s.vars apart W args.toList ds gs before) (hb : Below W.heap.size W W') :
    s.post enc Tryz.prog f apart fresh handsOn again W args (.bool true) W' := by
  have hlt : ∀ p ∈ before, p.block < W.heap.size := fun p hp => hW.lt p hp
  have hold : ∀ p ∈ before, (fun b => decide (b < W.heap.size)) p.block = true := fun p hp => by simpa using hlt p hp
  have hW' := hW
  obtain ⟨pa, pv, hA, hV, hps, hz, hn⟩ := hW'
  have hpv : pv = [] := by
    rw [hvars] at hV
    exact (trodVars_none hV).2
  subst hpv
  rw [List.append_nil] at hps
  subst hps
  have ha : ∀ sp : Nat → Bool, (∀ p ∈ before, sp p.block = true) → DataW.TrodAll enc Tryz.prog W' 0 sp true f.params.toList args.toList (s.fn H (ds ++ gs)).args before := fun sp hsp => by
    rw [hargs]
    exact all_again hb _ _ _ _ hr hA hlt hsp
  have hv : ∀ sp : Nat → Bool, DataW.TrodVars enc Tryz.prog W' sp s.vars (s.fn H (ds ++ gs)).vars [] := fun sp => by
    rw [hvars, hvs]
    rfl
  have hrs : ∀ (b : Nat) (sp : Nat → Bool) (hd : Bool), DataW.TrodAll enc Tryz.prog W' b sp hd f.resultTypes.toList ((Value.bool true).resultList f.resultTypes.size) (s.fn H (ds ++ gs)).results [] := fun b sp hd => by
    rw [hres, ht]
    exact trodAll_mk1 (shut_bool Tryz.underlying4 _)
  refine ⟨ds, gs, before, [], before, [], hW, hrs _ _ _, ha _ hold, hv _, World.keptBut_mono (fun p hp => ⟨hp, ?_⟩) (hb.frame (· ∈ before)), fun _ => ?_⟩
  · simp [hp]
  · refine ⟨ok_one ht rfl (okWide_bool_mk Tryz.underlying4 _), _, _, ([] ++ before) ++ [], ⟨[] ++ before, [], trodAll_append (ha _ (fun _ _ => rfl)) (hrs _ _ _), hv _, rfl, ?_, ?_⟩, ?_⟩
    · intro b off hp
      have hin : MemPlace.cell b off ∈ before := by simpa using hp
      rw [hb.frozen (hlt _ hin)]
      exact hz b off hin
    · intro ha
      simpa using hn ha
    · intro p hp _
      simpa using hp
end

/-- a block's cells laid anew -/
def fillCells (cs : Array Value) : Obj → Obj
  | .cells _ t frozen => .cells cs t frozen
  | o => o
/-- A WORLD FOR THE WITNESS: the settled one, both tables holding what their initialisers lay. -/
noncomputable def laidWorld (os : Os) : World :=
  { World.holding Tryz.prog os ⟨#[], #[], []⟩ with heap := ((World.holding Tryz.prog os ⟨#[], #[], []⟩).heap.modify 1 (fillCells (halves.map fun z => Value.int .u32 z).toArray)).modify 0 (fillCells (Lib.deBruijn64tab.map fun z => Value.int .u8 (z : Nat)).toArray) }
def noCfg : Value := .agg #[.int .i64 0, .int .i64 0, .int .i64 0]
theorem laid_met_fits (os : Os) : laidMet Tryz.prog Rows.fenceFitsRow.laid ((laidWorld os).forCall (fun _ _ => 0) ⟨#[], #[.int .i64 0, noCfg], []⟩).memory :=
  laidMet_of_run' 8 (by kernel_rfl) (by kernel_rfl)
theorem tab_of {W : World} (h : laidMet Tryz.prog Rows.fenceFitsRow.laid W) : Tab W ∧ TabZ W := by
  have h1 : Lib.TabIs Tryz.prog W "armarium/crc.halves" .u32 halves := Lib.tabIs_of_head (g := 1) (t := 181) (e := 163) (n := 16) (by kernel_rfl) (by kernel_rfl) Tryz.underlying181 Tryz.underlying163 (by kernel_rfl) (by kernel_rfl) h
  have h2 : Lib.TabIs Tryz.prog W "math/bits.deBruijn64tab" .u8 (Lib.deBruijn64tab.map fun (z : Nat) => (z : Int)) := Lib.tabIs_of_head (g := 0) (t := 172) (e := 5) (n := 64) (by kernel_rfl) (by kernel_rfl) Tryz.underlying172 Tryz.underlying5 (by kernel_rfl) (by kernel_rfl) (laidMet.tail h)
  refine ⟨fun j hj => h1.cell (by kernel_rfl) j hj, fun j hj => ?_⟩
  have h3 := h2.cell (g := 0) (by kernel_rfl) j (by rw [List.length_map]; exact hj)
  rw [h3]
  congr 2
  simp [List.getD, hj]
end Go.Proofs.YtccnihdkjcjeoaaGreatDoor
namespace Go.Proofs.YtccnihdkjcjeoaaGreatDoor
open Go.ChangeShapes Go.WideShapes Go.ChangeAt Go.RowKit

set_option maxRecDepth 100000 in
theorem fits_contract (H : Type) (enc : TypeId × Value → H) (W : World) (base : Nat) (args : Array Value) (ds gs : List (DataW H)) (before : List MemPlace)
    (hval : ∀ (j : Nat) t v, Tryz.f3.params[j]? = some t → args[j]? = some v → Value.okWide Tryz.prog W .any base t v)
    (hW : DataW.Whole enc Tryz.prog Tryz.f3.params.toList Rows.fenceFitsSpec.vars false W args.toList ds gs before) (hL : laidMet Tryz.prog Rows.fenceFitsRow.laid W) :
    Calls Tryz.prog 3 args W fun e W' => ∃ v, e = .returned v ∧ Rows.fenceFitsSpec.post enc Tryz.prog Tryz.f3 false true false false W args v W' := by
  have hW' := hW
  obtain ⟨p, q, hA0, hV, rfl, hfz, hnd⟩ := hW
  have hA : DataW.TrodAll enc Tryz.prog W 0 (fun _ => true) true Tryz.f3.params.toList args.toList ds p := hA0
  rw [Tryz.params3] at hA hval
  obtain ⟨v0, v1, d0, d1, p0, p1, rfl, rfl, rfl, h0, h1⟩ := trodAll_two hA
  obtain ⟨rfl, rfl⟩ := trodVars_none hV
  obtain ⟨n, rfl, _, _⟩ := open_int Tryz.underlying3 (hval 0 3 v0 rfl rfl) h0
  obtain ⟨u0, u1, u2, y0, y1, y2, m, rfl, _, _, t0, t1, t2⟩ := Joins.open_agg3 Tryz.underlying23 (by kernel_rfl) (by kernel_rfl) (hval 1 23 v1 rfl rfl) h1
  obtain ⟨l, e1, _, _⟩ := DataW.trod_int Tryz.underlying3 t0
  obtain ⟨p, e2, _, _⟩ := DataW.trod_int Tryz.underlying3 t1
  obtain ⟨k, e3, _, _⟩ := DataW.trod_int Tryz.underlying3 t2
  injection e1 with e1
  injection e2 with e2
  injection e3 with e3
  subst e1
  subst e2
  subst e3
  obtain ⟨ht, htz⟩ := tab_of hL
  have hsz := cell_lt (ht 0 (by decide))
  refine (fenceFits_any n l p k W ht htz hsz).mono fun e W' he => ?_
  obtain ⟨rfl, hb⟩ := he
  exact ⟨_, rfl, post_law rfl (by kernel_rfl) (by kernel_rfl) rfl rfl rfl hW' hb⟩
theorem fits_reads (os : Os) {H : Type} (enc : TypeId × Value → H) : ∃ x : List (DataW H) × List (DataW H) × List MemPlace, DataW.whole enc Tryz.prog ((laidWorld os).forCall (fun _ _ => 0) ⟨#[], #[.int .i64 0, noCfg], []⟩).memory Tryz.f3.params.toList Rows.fenceFitsSpec.vars false #[Value.int .i64 0, noCfg].toList 8 = some x :=
  ⟨([.lit (.int .i64 0), .agg [.lit (.int .i64 0), .lit (.int .i64 0), .lit (.int .i64 0)]], [], []), by kernel_rfl⟩

set_option maxRecDepth 100000 in
theorem fits_lifted (os : Os) (started : os.Started) (H : Type) (enc : TypeId × Value → H) (F : Stop.Interp) :
    ReturnsInHanded {} Tryz.checked os 3 .any ((OpenSpec.ofChange Rows.fenceFitsSpec).preRow enc Tryz.prog Tryz.f3 Rows.fenceFitsRow.domain false Rows.fenceFitsRow.laid) (((OpenSpec.ofChange Rows.fenceFitsSpec).at F).post enc Tryz.prog Tryz.f3 false true false false) := by
  obtain ⟨x, hx⟩ := fits_reads os enc
  refine returnsInHanded_of_row (C := Tryz.checked) (s := OpenSpec.ofChange Rows.fenceFitsSpec) own started (by kernel_rfl) Tryz.func3
    (witness_row_at (enc := enc) (C := Tryz.checked) false (laidWorld os) #[.int .i64 0, noCfg] rfl (by kernel_rfl) (by kernel_rfl) (by kernel_rfl)
      (OpenSpec.preRow_of_cond 8 hx (by kernel_rfl) (fun k hk => by cases hk) (by kernel_rfl) (laid_met_fits os))) ?_
  intro W base args ds gs before hval hW _ _ _ hL _ _
  exact fits_contract H enc W base args ds gs before hval hW hL

theorem fits_said : Rows.FenceFitsSaid :=
  OpenClaim.holds_of_cond 3 Tryz.f3 rfl rfl rfl rfl rfl rfl rfl ⟨rfl, rfl, rfl, rfl, rfl⟩ rfl rfl rfl rfl rfl (by kernel_rfl) Tryz.func3 (by kernel_rfl)
    (of_decide_eq_true (by kernel_rfl)) (by unfold Func.isWrapper; first | (rw [if_pos (by decide +kernel)]; kernel_rfl) | (rw [if_neg (by decide +kernel)]; exact ⟨rfl, rfl⟩))
    (fun os started H enc _ F => by rw [OpenClaim.pre_eq_preRow]; exact fits_lifted os started H enc F)

/-- No parameter wants a stand-in; the program's own looks are off: what the card asks. -/
theorem fits_plain (f : FuncId) (fn : Func) (hf : Tryz.pinned.checked.prog.funcNamed "armarium/armariumlaw39.FenceFits" = some f) (hfn : Tryz.pinned.checked.prog.funcs[f]? = some fn) :
    false = Tryz.pinned.checked.prog.looks [] ∧ ∀ (j : Nat) t, fn.params[j]? = some t → Tryz.pinned.checked.prog.wantsStandIn t = false := by
  obtain rfl : f = 3 := Option.some.inj ((show Tryz.prog.funcNamed "armarium/armariumlaw39.FenceFits" = some 3 by kernel_rfl).symm.trans hf) |>.symm
  obtain rfl : fn = Tryz.f3 := (Option.some.inj (Tryz.func3.symm.trans hfn)).symm
  refine ⟨by kernel_rfl, fun j t ht => ?_⟩
  rw [Tryz.params3] at ht
  have hall : (#[3, 23] : Array TypeId).all (fun t => !Tryz.prog.wantsStandIn t) = true := by kernel_rfl
  have h := Array.all_eq_true'.1 hall t (Array.mem_of_getElem? ht)
  rwa [Bool.not_eq_true'] at h

/-- ████ THE CARD ████ -/
theorem fenceFits_card : Rows.FenceFitsCardSaid :=
  Claim7.holds_tied_plain_at .later [] _ _ _ _ fits_said (fun _ h => by cases h) (by kernel_rfl) (fun _ h => by cases h) fenceFits_row_tie rfl ⟨rfl, rfl⟩ (by kernel_rfl) rfl fits_plain (by kernel_rfl)
end Go.Proofs.YtccnihdkjcjeoaaGreatDoor
