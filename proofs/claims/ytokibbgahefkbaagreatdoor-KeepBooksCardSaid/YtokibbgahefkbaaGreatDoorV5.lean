/- What the laws of package keep owe of their witness of the store. Walk of the law: do the document's book and the package's say the same? -/
import Derived.Test.YtokibbgahefkbaaGreatDoorV1
import Derived.Test.YtokibbgahefkbaaGreatDoorProg
import Derived.Test.YtokibbgahefkbaaGreatDoorV4
set_option linter.all false
namespace Go.Proofs.YtokibbgahefkbaaGreatDoor.Fe
open Go.RowKit

/-- wakes answers true in every world above w -/
def Wak (w : World) : Prop := ∀ w', Below w.heap.size w w' → Calls Tryz.prog 6 #[] w' fun e w'' => e = .returned (.bool true) ∧ Below w'.heap.size w' w''
end Go.Proofs.YtokibbgahefkbaaGreatDoor.Fe
namespace Go.Proofs.YtokibbgahefkbaaGreatDoor.Fe
open Go.RowKit Go.Shelf

theorem keysW_nil (es : List Ent) : keysW es ⟨#[]⟩ = es.map (·.1) := by
  unfold keysW
  rw [List.filter_eq_self.2]
  intro e _
  unfold preB Lib.hasPrefix
  simp
theorem keys_at {w : World} {B : Nat} {A : Option Addr} {ss : List ByteArray} (h : Mem w B A (strs ss)) (hn : 0 < ss.length) : ∃ g off, A = some ⟨g, off, none⟩ ∧ g < B ∧ ∀ j (hj : j < ss.length), w.cell? ⟨g, off + j, none⟩ = some (.string ss[j]) := by
  have hl : (strs ss).length = ss.length := by simp [strs]
  obtain ⟨g, off, e, hg, hc⟩ := h.get (by rw [hl]; exact hn)
  refine ⟨g, off, e, hg, fun j hj => ?_⟩
  rw [hc j (by rw [hl]; exact hj)]
  simp [strs]
set_option maxHeartbeats 4000000 in
set_option maxRecDepth 20000 in
theorem same_any (A A2 : Option Addr) (c c2 : Nat) (es : List Ent) (w : World) (hm : Mem w w.heap.size A (pv es)) (hm2 : Mem w w.heap.size A2 (pv es)) (hb : Bk es) :
    Calls Tryz.prog 9 #[bkV A es.length c, .slice A2 es.length c2] w fun e w' => e = .returned (.bool true) ∧ Below w.heap.size w w' := by
  obtain ⟨hw1, hb1⟩ : Whole (w.alloc (.cells #[.slice A es.length c] 25)) w.heap.size 25 [.slice A es.length c] ∧ Below w.heap.size w (w.alloc (.cells #[.slice A es.length c] 25)) := ⟨Whole.new w _ _, (Below.refl _ _).alloc (Nat.le_refl _) _⟩
  have c0 := hw1.cell 0
  simp only [List.getElem?_cons_zero] at c0
  have hsz := hb1.size
  have HB1 := hide hb1
  have HW1 := hide hw1
  have HM := hide ((hm.below hb1).mono hsz)
  have HM2 := hide ((hm2.below hb1).mono hsz)
  have HBk := hide hb
  have hl := hb.len
  clear hb1 hw1 hsz hm hm2 hb
  unfold bkV
  go_enter Tryz.func9, Tryz.ntmps9
  go_upto_region 1 with fail
  generalize w.alloc (.cells #[.slice A es.length c] 25) = w1 at *
  have HK := hide (keys_any A c es ⟨#[]⟩ w1 HM.out (by omega))
  unfold bkV at HK
  go_wp2_with fail
  refine HK.out.mono ?_
  rintro e w2 ⟨Ak, ck, rfl, ho, hb2⟩
  have hkl : (keysW es ⟨#[]⟩).length = es.length := by rw [keysW_nil, List.length_map]
  rw [hkl] at ho ⊢
  have HKm := hide (owns_mem ho)
  have HB2 := hide (HB1.out.trans (hb2.mono HB1.out.size))
  have HW2 := hide (HW1.out.below hb2 HW1.out.lt)
  have HMb := hide ((HM.out.below hb2).mono hb2.size)
  have HMc := hide ((HM2.out.below hb2).mono hb2.size)
  clear ho hb2 HK HB1 HW1 HM HM2 c0
  have c0 := HW2.out.cell 0
  simp only [List.getElem?_cons_zero] at c0
  clear hkl
  go_upto_region 2 with fail
  have HLen := hide (len_any A es.length c w2)
  unfold bkV at HLen
  go_wp2_with fail
  refine HLen.out.mono ?_
  rintro e w3 ⟨rfl, hb3⟩
  have HB3 := hide (HB2.out.trans (hb3.mono HB2.out.size))
  have HW3 := hide (HW2.out.below hb3 HW2.out.lt)
  have HMd := hide ((HMb.out.below hb3).mono hb3.size)
  have HMe := hide ((HMc.out.below hb3).mono hb3.size)
  have HKe := hide ((HKm.out.below hb3).mono hb3.size)
  clear hb3 HLen HB2 HW2 HMb HMc HKm c0
  go_upto_region 5 with fail
  go_loopw [6, 7, 8] (fun x _ _ wr => ∃ j : Nat, j ≤ es.length ∧ x = .int .i64 j ∧ Below w3.heap.size w3 wr) (fun x _ _ _ => es.length - (Go.RowKit.intOf x).toNat)
  case atStart => exact ⟨0, Nat.zero_le _, rfl, Below.refl _ _⟩
  case round =>
    obtain ⟨j, hj, rfl, hbr⟩ := hrel
    have HBr := hide hbr
    have HWr := hide (HW3.out.below hbr HW3.out.lt)
    have HMr := hide ((HMd.out.below hbr).mono hbr.size)
    have HNr := hide ((HMe.out.below hbr).mono hbr.size)
    have HKr := hide ((HKe.out.below hbr).mono hbr.size)
    clear hbr
    by_cases hlt : j < es.length
    · obtain ⟨g, off, rfl, hg, hc⟩ := keys_at HKr.out (by rw [keysW_nil, List.length_map]; omega)
      obtain ⟨g2, off2, rfl, hg2, hc2⟩ := prs_at HNr.out (by omega)
      have f0 : wr.cell? ⟨g, off + j, none⟩ = some (.string es[j].1) := by
        have h := hc j (by rw [keysW_nil, List.length_map]; exact hlt)
        rw [h]
        simp only [keysW_nil, List.getElem_map]
      obtain ⟨f1, f2⟩ := hc2 j hlt
      have HLk := hide (show getV es es[j].1 = .tuple #[.string es[j].2, .bool true] by
        unfold getV
        rw [lookup_hit HBk.out.rise hlt])
      have HG := hide (get_any A c es es[j].1)
      rw [HLk.out] at HG
      generalize es[j].1 = kj at *
      generalize es[j].2 = vj at *
      clear hc hc2
      have HWd := hide (show Whole wr.drew w.heap.size 25 [.slice A es.length c] from HWr.out.below (Below.refl _ _).drew HWr.out.lt)
      have HMw := hide (show Mem wr.drew wr.drew.heap.size A (pv es) from (HMr.out.below (Below.refl _ _).drew).mono (Nat.le_refl _))
      have c0 := HWr.out.cell 0
      simp only [List.getElem?_cons_zero] at c0
      have hw0 := HWr.out.lt
      go_upto_region 7 with fail
      refine wp_region_held_drew (S := (fun w' => Below wr.heap.size wr w')) (by kernel_rfl) ((Below.refl _ _).drew) (fun hHeld => ?_)
      generalize wr.drew = wd at *
      refine wpAnyH_take (i := 0) (v := ?vaq1) rfl (by kernel_rfl) (by kernel_rfl) (by kernel_rfl) (fun _ _ _ h => h) (Or.inl ⟨by rfl, ?haq1⟩) (by assumption) ?raq1
      case haq1 => (intro wq hSw; have e0 := (hSw.cell (p := ⟨w.heap.size, 0, none⟩) hw0).trans c0; go_simp; (try with_reducible rfl))
      try simp only [Act.put, List.getElem_toArray, List.getElem_cons_zero, List.setIfInBounds_toArray, List.set_cons_zero, List.set_cons_succ]
      refine wpAnyH_take (i := 1) (v := ?vaq2) rfl (by kernel_rfl) (by kernel_rfl) (by kernel_rfl) (fun _ _ _ h => h) (Or.inl ⟨by rfl, ?haq2⟩) (by assumption) ?raq2
      case haq2 => (intro wq hSw; go_simp; (try with_reducible rfl))
      try simp only [Act.put, List.getElem_toArray, List.getElem_cons_zero, List.getElem_cons_succ, List.setIfInBounds_toArray, List.set_cons_zero, List.set_cons_succ]
      refine wpAnyH_take (i := 2) (v := ?vaq3) rfl (by kernel_rfl) (by kernel_rfl) (by kernel_rfl) (fun _ _ _ h => h) (Or.inl ⟨by rfl, ?haq3⟩) (by assumption) ?raq3
      case haq3 => (intro wq hSw; go_simp; (try with_reducible rfl))
      try simp only [Act.put, List.getElem_toArray, List.getElem_cons_zero, List.getElem_cons_succ, List.setIfInBounds_toArray, List.set_cons_zero, List.set_cons_succ]
      refine wpAnyH_take (i := 3) (v := ?vaq4) rfl (by kernel_rfl) (by kernel_rfl) (by kernel_rfl) (fun _ _ _ h => h) (Or.inl ⟨by rfl, ?haq4⟩) (by assumption) ?raq4
      case haq4 => (intro wq hSw; go_simp; (try with_reducible rfl))
      try simp only [Act.put, List.getElem_toArray, List.getElem_cons_zero, List.getElem_cons_succ, List.setIfInBounds_toArray, List.set_cons_zero, List.set_cons_succ]
      refine wpAnyH_take (i := 4) (v := ?vaq5) rfl (by kernel_rfl) (by kernel_rfl) (by kernel_rfl) (fun _ _ _ h => h) (Or.inl ⟨by rfl, ?haq5⟩) (by assumption) ?raq5
      case haq5 => (intro wq hSw; have e0 := (hSw.cell (p := ⟨g, off + j, none⟩) hg).trans f0; go_simp; (try with_reducible rfl))
      try simp only [Act.put, List.getElem_toArray, List.getElem_cons_zero, List.getElem_cons_succ, List.setIfInBounds_toArray, List.set_cons_zero, List.set_cons_succ]
      refine wpAnyH_ready (rs := [5]) (by kernel_rfl) (by simp) ?_
      refine AllReadyH.cons (o := _) rfl (fun K hK => ?_) ?_
      · skip
        have hgt := HG.out wd HMw.out (by omega) HBk.out.rise
        unfold bkV at hgt
        go_simp
        refine hgt.mono ?_
        rintro e ws ⟨rfl, hbs⟩
        have HS := hide (hHeld.trans (hbs.mono hHeld.size))
        clear hbs hgt
        refine hK.out _ _ (HS.out) (fun hHeld => ?_)
        clear hK K 
        try simp only [Act.put, List.getElem_toArray, List.getElem_cons_zero, List.getElem_cons_succ, List.setIfInBounds_toArray, List.set_cons_zero, List.set_cons_succ]
        refine wpAnyH_take (i := 6) (v := ?vaq6) rfl (by kernel_rfl) (by kernel_rfl) (by kernel_rfl) (fun _ _ _ h => h) (Or.inl ⟨by rfl, ?haq6⟩) (by assumption) ?raq6
        case haq6 => (intro wq hSw; go_simp; (try with_reducible rfl))
        try simp only [Act.put, List.getElem_toArray, List.getElem_cons_zero, List.getElem_cons_succ, List.setIfInBounds_toArray, List.set_cons_zero, List.set_cons_succ]
        refine wpAnyH_take (i := 7) (v := ?vaq7) rfl (by kernel_rfl) (by kernel_rfl) (by kernel_rfl) (fun _ _ _ h => h) (Or.inl ⟨by rfl, ?haq7⟩) (by assumption) ?raq7
        case haq7 => (intro wq hSw; go_simp; (try with_reducible rfl))
        try simp only [Act.put, List.getElem_toArray, List.getElem_cons_zero, List.getElem_cons_succ, List.setIfInBounds_toArray, List.set_cons_zero, List.set_cons_succ]
        refine wpAnyH_take (i := 8) (v := ?vaq8) rfl (by kernel_rfl) (by kernel_rfl) (by kernel_rfl) (fun _ _ _ h => h) (Or.inl ⟨by rfl, ?haq8⟩) (by assumption) ?raq8
        case haq8 => (intro wq hSw; go_simp; (try with_reducible rfl))
        try simp only [Act.put, List.getElem_toArray, List.getElem_cons_zero, List.getElem_cons_succ, List.setIfInBounds_toArray, List.set_cons_zero, List.set_cons_succ]
        refine wpAnyH_take (i := 9) (v := ?vaq9) rfl (by kernel_rfl) (by kernel_rfl) (by kernel_rfl) (fun _ _ _ h => h) (Or.inl ⟨by rfl, ?haq9⟩) (by assumption) ?raq9
        case haq9 => (intro wq hSw; go_simp; (try with_reducible rfl))
        try simp only [Act.put, List.getElem_toArray, List.getElem_cons_zero, List.getElem_cons_succ, List.setIfInBounds_toArray, List.set_cons_zero, List.set_cons_succ]
        refine wpAnyH_take (i := 10) (v := ?vaq10) rfl (by kernel_rfl) (by kernel_rfl) (by kernel_rfl) (fun _ _ _ h => h) (Or.inl ⟨by rfl, ?haq10⟩) (by assumption) ?raq10
        case haq10 => (intro wq hSw; go_simp; (try with_reducible rfl))
        try simp only [Act.put, List.getElem_toArray, List.getElem_cons_zero, List.getElem_cons_succ, List.setIfInBounds_toArray, List.set_cons_zero, List.set_cons_succ]
        refine wpAnyH_done (by kernel_rfl) ?_ _
        have HBn := hide (HBr.out.trans (hHeld.mono HBr.out.size))
        have f0' : ws.cell? ⟨g, off + j, none⟩ = some (.string kj) := (HS.out.cell (p := ⟨g, off + j, none⟩) hg).trans f0
        have f1' : ws.cell? ⟨g2, off2 + j * 2, none⟩ = some (.string kj) := (HS.out.cell (p := ⟨g2, off2 + j * 2, none⟩) hg2).trans f1
        have f2' : ws.cell? ⟨g2, off2 + j * 2 + 1, none⟩ = some (.string vj) := (HS.out.cell (p := ⟨g2, off2 + j * 2 + 1, none⟩) hg2).trans f2
        clear hHeld f0 f1 f2 HS
        go_upto_region 8 with fail
        go_quiet (fail)
        have HBm := hide (show Below w3.heap.size w3 (ws.drewN nq) from ⟨HBn.out.os, HBn.out.tape, HBn.out.output, HBn.out.size, HBn.out.block⟩)
        have HNum := hide (show Value.int IntKind.i64 ((j : Int) + 1) = .int .i64 ((j + 1 : Nat) : Int) from rfl)
        have HMs := hide (show es.length - (Go.RowKit.intOf (Value.int IntKind.i64 ((j : Int) + 1))).toNat < es.length - (Go.RowKit.intOf (Value.int IntKind.i64 (j : Int))).toNat by simp only [Go.RowKit.intOf]; omega)
        go_wp2_with fail
        exact ⟨⟨j + 1, by omega, HNum.out, HBm.out⟩, HMs.out⟩
      exact AllReadyH.nil
    · obtain rfl : j = es.length := by omega
      have c0 := HWr.out.cell 0
      simp only [List.getElem?_cons_zero] at c0
      have HBy := hide (bytesB_any A c es wr HMr.out HBk.out)
      unfold bkV at HBy
      go_wp2_with fail
      refine HBy.out.mono ?_
      rintro e w4 ⟨rfl, hb4⟩
      have HBy2 := hide (rbytes_any A2 c2 es w4 ((HNr.out.below hb4).mono hb4.size) HBk.out)
      have HB4 := hide (HB3.out.trans ((HBr.out.trans (hb4.mono HBr.out.size)).mono HB3.out.size))
      clear HBy hb4 c0
      go_wp2_with fail
      refine HBy2.out.mono ?_
      rintro e w5 ⟨rfl, hb5⟩
      have HB5 := hide (HB4.out.trans (hb5.mono HB4.out.size))
      clear HBy2 hb5 HB4
      generalize strOfNums (encB es) = sb at *
      go_wp2_with fail
      go_ret
      exact ⟨by simp, HB5.out⟩
end Go.Proofs.YtokibbgahefkbaaGreatDoor.Fe
