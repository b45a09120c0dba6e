/- The walk of Of. -/
import Derived.Test.YtbajnkkekibdmaaDoorW19
namespace Go.Proofs.YtbajnkkekibdmaaDoor
open Go.RowKit Go.Shelf Go.Lib

/-- what Of hands back -/
def OfRes (p : Po) (PA : Option Addr) (pc : Nat) (w : World) (e : Ending) (w' : World) : Prop :=
  ∃ (A : Option Addr) (c : Nat), e = .returned (.agg #[.int .i64 p.last, .slice A p.rs.length c, .slice PA p.ps.length pc]) ∧ Below w.heap.size w w' ∧ Mem w' w'.heap.size A (rules p.rs)
theorem infoRule : (Tryd.prog.info? 45).map (fun i => (i.zero, i.size, i.bytes)) = some (some (.agg #[.int .u32 0, .int .i64 0]), 2, 16) := by kernel_rfl
theorem owns_rules {w : World} {base n c : Nat} {A : Option Addr} {l : List Value} (h : w.ownsRow base 45 2 (.slice A n c) n l) : Mem w w.heap.size A l := by
  intro h0
  have hl := h.1
  rcases h.2 with ⟨e, rfl⟩ | ⟨g, cap, cur, e, _, hg, h1, _, h3, h4⟩
  · omega
  · injection e with e _ e2
    subst e
    refine ⟨g, 0, rfl, (Array.getElem?_eq_some_iff.1 hg).1, fun i hi => ?_⟩
    have e : cur.toList[i]? = some (l[i]) := by
      rw [← List.getElem?_eq_getElem, ← h4, List.getElem?_take_of_lt (by omega)]
    rw [Array.getElem?_toList] at e
    simp [World.cell?, hg, e]
/-- the state of Of's loop -/
structure OfSt (w : World) (p : Po) (RA PA : Option Addr) (rc pc : Nat) (k : Nat) (A : Option Addr) (c : Nat) (wr : World) : Prop where
  pol : Whole wr w.heap.size 25 [.int .i64 p.last, .slice RA p.rs.length rc, .slice PA p.ps.length pc]
  res : Whole wr (w.heap.size + 1) 37 [.int .i64 0, .slice none 0 0, .slice none 0 0]
  out : Whole wr (w.heap.size + 1 + 1) 37 [.int .i64 p.last, .slice A k c, .slice PA p.ps.length pc]
  own : wr.ownsRow (w.heap.size + 1 + 1 + 1) 45 2 (.slice A k c) k (rules (p.rs.take k))
  bel : Below w.heap.size w wr

theorem owns_set {w : World} {base : Nat} {e : TypeId} {size : Nat} {v : Value} {n : Nat} {xs : List Value} (h : w.ownsRow base e size v n xs) {B : Nat} (hB : B < base) (i : Nat) (u : Value) : (w.setCell ⟨B, i, none⟩ u).ownsRow base e size v n xs := by
  refine ⟨h.1, ?_⟩
  rcases h.2 with ⟨rfl, rfl⟩ | ⟨g, cap, cur, rfl, hb, hg, h1, h2, h3, h4⟩
  · exact .inl ⟨rfl, rfl⟩
  · exact .inr ⟨g, cap, cur, rfl, hb, (Below.heap_setCell w ⟨B, i, none⟩ u g (by simp only; omega)).trans hg, h1, h2, h3, h4⟩
theorem rules_snoc (l : List (Int × Int)) (sp cn : Int) : rules (l ++ [(sp, cn)]) = rules l ++ [.int .u32 sp, .int .i64 cn] := by simp [rules, ruleC]
theorem rule_one (sp cn : Int) : ∀ u ∈ [Value.int .u32 sp, Value.int .i64 cn], u.oneCell' = true := by
  intro u hu
  simp at hu
  rcases hu with rfl | rfl <;> rfl
theorem mem_block (w : World) (cs : List Value) (t : TypeId) : Mem (w.alloc (.cells cs.toArray t)) (w.alloc (.cells cs.toArray t)).heap.size (some ⟨w.heap.size, 0, none⟩) cs := by
  refine fun _ => ⟨w.heap.size, 0, rfl, by simp, fun i hi => ?_⟩
  rw [Nat.zero_add, cell_new]
  simp
theorem OfSt.start (w : World) (p : Po) (RA PA : Option Addr) (rc pc : Nat) : OfSt w p RA PA rc pc 0 none 0 (((w.alloc (.cells #[.int .i64 p.last, .slice RA p.rs.length rc, .slice PA p.ps.length pc] 25)).alloc (.cells #[.int .i64 0, .slice none 0 0, .slice none 0 0] 37)).alloc (.cells #[.int .i64 p.last, .slice none 0 0, .slice PA p.ps.length pc] 37)) := by
  have a1 := Whole.new w [.int .i64 p.last, .slice RA p.rs.length rc, .slice PA p.ps.length pc] 25
  have b1 : Below w.heap.size w (w.alloc (.cells #[.int .i64 p.last, .slice RA p.rs.length rc, .slice PA p.ps.length pc] 25)) := (Below.refl _ _).alloc (Nat.le_refl _) _
  have z1 : (w.alloc (.cells #[.int .i64 p.last, .slice RA p.rs.length rc, .slice PA p.ps.length pc] 25)).heap.size = w.heap.size + 1 := by simp
  change Whole (w.alloc (.cells #[.int .i64 p.last, .slice RA p.rs.length rc, .slice PA p.ps.length pc] 25)) _ _ _ at a1
  generalize w.alloc (.cells #[.int .i64 p.last, .slice RA p.rs.length rc, .slice PA p.ps.length pc] 25) = w1 at *
  have a2 := Whole.new w1 [.int .i64 0, .slice none 0 0, .slice none 0 0] 37
  have b2 : Below w1.heap.size w1 (w1.alloc (.cells #[.int .i64 0, .slice none 0 0, .slice none 0 0] 37)) := (Below.refl _ _).alloc (Nat.le_refl _) _
  have z2 : (w1.alloc (.cells #[.int .i64 0, .slice none 0 0, .slice none 0 0] 37)).heap.size = w1.heap.size + 1 := by simp
  change Whole (w1.alloc (.cells #[.int .i64 0, .slice none 0 0, .slice none 0 0] 37)) _ _ _ at a2
  generalize w1.alloc (.cells #[.int .i64 0, .slice none 0 0, .slice none 0 0] 37) = w2 at *
  have a3 := Whole.new w2 [.int .i64 p.last, .slice none 0 0, .slice PA p.ps.length pc] 37
  have b3 : Below w2.heap.size w2 (w2.alloc (.cells #[.int .i64 p.last, .slice none 0 0, .slice PA p.ps.length pc] 37)) := (Below.refl _ _).alloc (Nat.le_refl _) _
  change Whole (w2.alloc (.cells #[.int .i64 p.last, .slice none 0 0, .slice PA p.ps.length pc] 37)) _ _ _ at a3
  generalize w2.alloc (.cells #[.int .i64 p.last, .slice none 0 0, .slice PA p.ps.length pc] 37) = w3 at *
  rw [z1] at a2 z2
  rw [z2] at a3
  have a1' := (a1.below b2 (by omega)).below b3 (by omega)
  have a2' := a2.below b3 (by omega)
  exact ⟨a1', a2', a3, ⟨rfl, .inl ⟨rfl, rfl⟩⟩, (b1.trans (b2.mono (by omega))).trans (b3.mono (by omega))⟩
theorem OfSt.next {w : World} {p : Po} {RA PA : Option Addr} {rc pc : Nat} {k : Nat} {A : Option Addr} {c : Nat} {wr w2 : World} {A2 : Option Addr} {q2 : Nat} {sp cn : Int} (h : OfSt w p RA PA rc pc k A c wr) (hk : k < p.rs.length) (hr : p.rs[k] = (sp, cn))
    (hb : Below (w.heap.size + 1 + 1 + 1) wr w2) (hown : w2.ownsRow (w.heap.size + 1 + 1 + 1) 45 2 (.slice A2 (k + 1) q2) (k + 1) (rules (p.rs.take k) ++ [.int .u32 sp, .int .i64 cn])) :
    OfSt w p RA PA rc pc (k + 1) A2 q2 (w2.setCell ⟨w.heap.size + 1 + 1, 1, none⟩ (.slice A2 (k + 1) q2)) := by
  refine ⟨(h.pol.below hb (by omega)).of_block (Below.heap_setCell w2 _ _ _ (by simp only; omega)), (h.res.below hb (by omega)).of_block (Below.heap_setCell w2 _ _ _ (by simp only; omega)), (h.out.below hb (by omega)).set_ 1 _, ?_, (h.bel.trans (hb.mono (by omega))).setCell (by simp only; omega) _⟩
  rw [List.take_succ_eq_append_getElem hk, hr, rules_snoc]
  exact owns_set hown (by omega) _ _

set_option maxHeartbeats 2000000 in
set_option maxRecDepth 100000 in
theorem of_any (p : Po) (RA PA : Option Addr) (rc pc : Nat) (w : World) (hp : PoAt w w.heap.size p RA PA) (hl : p.rs.length ≤ 1000) :
    Calls Tryd.prog 11 #[.agg #[.int .i64 p.last, .slice RA p.rs.length rc, .slice PA p.ps.length pc]] w (OfRes p PA pc w) := by
  obtain ⟨i0, hi, hz0, hz1, hz2⟩ := info_parts infoRule
  have HP := hide hp
  clear hp
  go_enter Tryd.func11, Tryd.ntmps11
  go_wp2_with fail
  go_loopw [4] (fun i wr => ∃ k A c, k ≤ p.rs.length ∧ i = .int .i64 (k : Nat) ∧ OfSt w p RA PA rc pc k A c wr) (fun i _ => p.rs.length - (intOf i).toNat)
  case atStart =>
    exact ⟨0, none, 0, Nat.zero_le _, rfl, OfSt.start w p RA PA rc pc⟩
  case round =>
    obtain ⟨k, A, c, hk, rfl, hst⟩ := hrel
    have HS := hide hst
    have cP := hst.pol.cell 1
    have cO := hst.out.cell 1
    have fO := hst.out.frozen 1
    have hsz := hst.out.lt
    clear hst
    by_cases hlt : k < p.rs.length
    · obtain ⟨b, off, rfl, hb, r1, r2⟩ := (HP.out.rules.below HS.out.bel).rule k hlt
      have hb' : b < wr.heap.size := by omega
      go_wp2_with fail
      generalize hr : p.rs[k] = r at *
      obtain ⟨sp, cn⟩ := r
      dsimp only at r1 r2
      have n1 : ¬ (w.heap.size = w.heap.size + 1 + 1) := by omega
      have n2 : ¬ (w.heap.size + 1 + 1 = w.heap.size) := by omega
      have n3 : ¬ (b = w.heap.size + 1 + 1) := by omega
      have n4 : ¬ (w.heap.size + 1 + 1 = b) := by omega
      have l0 : w.heap.size < wr.heap.size := by omega
      have HO := hide HS.out.own
      have HR := hide hr
      clear hr
      have HO2 : Hid ((wr.drew.alloc (.cells #[.int .u32 sp, .int .i64 cn] 45)).ownsRow (w.heap.size + 1 + 1 + 1) 45 2 (.slice A k c) k (rules (p.rs.take k))) := hide (owns_below HO.out ((Below.refl _ _).drew.alloc (Nat.le_refl _) _))
      have HMn : Hid (Mem (wr.drew.alloc (.cells #[.int .u32 sp, .int .i64 cn] 45)) (wr.drew.alloc (.cells #[.int .u32 sp, .int .i64 cn] 45)).heap.size (some ⟨wr.heap.size, 0, none⟩) [.int .u32 sp, .int .i64 cn]) := hide (mem_block wr.drew [.int .u32 sp, .int .i64 cn] 45)
      have hbz : Hid (Below (w.heap.size + 1 + 1 + 1) wr (wr.drew.alloc (.cells #[.int .u32 sp, .int .i64 cn] 45))) := hide ((Below.refl _ _).drew.alloc hsz _)
      have hsz2 : w.heap.size + 1 + 1 + 1 ≤ (wr.drew.alloc (.cells #[.int .u32 sp, .int .i64 cn] 45)).heap.size := Nat.le_trans hsz hbz.out.size
      go_region_law
        (first | (refine step_app _ (by rfl) _ _ _ (by rfl) (w.heap.size + 1 + 1 + 1) 45 i0 (.agg #[.int .u32 0, .int .i64 0]) 2 16 Tryd.underlying35 hi hz0 hz1 hz2 rfl (by decide) (.slice A k c) k (rules (p.rs.take k)) (by rfl) HO2.out (some ⟨wr.heap.size, 0, none⟩) 1 1 [.int .u32 sp, .int .i64 cn] (by rfl) rfl HMn.out (rule_one sp cn) (by unfold maxLen; omega) (by omega) hsz2 ?_; intro A2 q2 w2 hown2 hg2; have hb2 : Below (w.heap.size + 1 + 1 + 1) wr w2 := hbz.out.grown hg2 hsz2 (fun g hg => (HO2.out.lt g hg).1); have cO2 := (hb2.cell (p := ⟨w.heap.size + 1 + 1, 1, none⟩) (show w.heap.size + 1 + 1 < _ by omega)).trans cO; have fO2 := (hb2.frozen (p := ⟨w.heap.size + 1 + 1, 1, none⟩) (show w.heap.size + 1 + 1 < _ by omega)).trans fO))
      all_goals
        have HNx := hide (OfSt.next HS.out hlt HR.out hb2 hown2)
        clear hown2 hg2 cO2 fO2 hb2
        go_wp2
        go_roundw
        case rel => exact ⟨k + 1, A2, q2, by omega, by go_num, by first | exact HNx.out | exact HNx.out.drew⟩
        case measure => simp [intOf]; omega
    · obtain rfl : k = p.rs.length := by omega
      have cO0 := HS.out.out.cell 0
      have cO2 := HS.out.out.cell 2
      have cR0 := HS.out.res.cell 0
      have cR1 := HS.out.res.cell 1
      have cR2 := HS.out.res.cell 2
      have fR0 := HS.out.res.frozen 0
      have fR1 := HS.out.res.frozen 1
      have fR2 := HS.out.res.frozen 2
      go_wp2
      have h1 := ((HS.out.res.set_ 0 (.int .i64 p.last)).set_ 1 (.slice A p.rs.length c)).set_ 2 (.slice PA p.ps.length pc)
      refine bodyPost_ret (results_cell_row (P := Tryd.prog) rfl _ _ (w.heap.size + 1) _ _ _ _ rfl h1 Tryd.underlying37 rfl (by kernel_rfl)) rfl ?_
      have own := HS.out.own
      rw [List.take_length] at own
      refine ⟨A, c, rfl, ((HS.out.bel.setCell (by simp only; omega) _).setCell (by simp only; omega) _).setCell (by simp only; omega) _, ?_⟩
      have own3 := owns_set (owns_set (owns_set own (B := w.heap.size + 1) (by omega) 0 (.int .i64 p.last)) (B := w.heap.size + 1) (by omega) 1 (.slice A p.rs.length c)) (B := w.heap.size + 1) (by omega) 2 (.slice PA p.ps.length pc)
      exact owns_rules own3
end Go.Proofs.YtbajnkkekibdmaaDoor
