/- A log in memory; its small methods; wal.texts where there is no sheet. Walk of wal.Open, on a disk that has a head and no sheet. Walk of (*wal.Log).does, Trim. -/
import Derived.Test.YtnnfiicmplkakaaGreatDoorQ4
import Derived.WalkMore
import Derived.Deep.QuietTactic
import Derived.BigQuiet
namespace Go.Proofs.YtnnfiicmplkakaaGreatDoor
open Go.RowKit Go.Shelf

/-- a log that is not dead -/
def Lg (W : World) (bl bd : Nat) (h : Hd) (at_ next used : Int) : Prop :=
  Whole W bl 92 [.pointer (some ⟨bd, 0, none⟩), .int .u64 h.gen, .int .u64 h.first, .int .i64 (h.sec : Int), .string h.note, .int .i64 at_, .int .u64 next, .int .i64 used, .bool false]
section
variable {W : World} {bl bd : Nat} {h : Hd} {at_ next used : Int}
theorem Lg.whole (hl : Lg W bl bd h at_ next used) : Whole W bl 92 [.pointer (some ⟨bd, 0, none⟩), .int .u64 h.gen, .int .u64 h.first, .int .i64 (h.sec : Int), .string h.note, .int .i64 at_, .int .u64 next, .int .i64 used, .bool false] := hl
theorem Lg.kp {W' : World} {F : Nat → Prop} (hl : Lg W bl bd h at_ next used) (hk : Kp F W W') (hn : ¬ F bl) : Lg W' bl bd h at_ next used := hl.whole.kp hk hn
theorem Lg.below {W' : World} (hl : Lg W bl bd h at_ next used) (hb : Below W.heap.size W W') : Lg W' bl bd h at_ next used := hl.whole.below hb hl.whole.lt
theorem lnote_any (hl : Lg W bl bd h at_ next used) : Calls Tryz.prog 18 #[.pointer (some ⟨bl, 0, none⟩)] W fun e w' => e = .returned (.string h.note) ∧ W = w' := by
  have c4 : W.cell? ⟨bl, 4, none⟩ = some (.string h.note) := hl.whole.cell 4
  clear hl
  go_enter Tryz.func18, Tryz.ntmps18
  go_wp2
  go_ret
  exact ⟨rfl, rfl⟩
theorem lsec_any (hl : Lg W bl bd h at_ next used) : Calls Tryz.prog 20 #[.pointer (some ⟨bl, 0, none⟩)] W fun e w' => e = .returned (.int .i64 (h.sec : Int)) ∧ W = w' := by
  have c3 : W.cell? ⟨bl, 3, none⟩ = some (.int .i64 (h.sec : Int)) := hl.whole.cell 3
  clear hl
  go_enter Tryz.func20, Tryz.ntmps20
  go_wp2
  go_ret
  exact ⟨rfl, rfl⟩
theorem ltaken_any (hl : Lg W bl bd h at_ next used) : Calls Tryz.prog 165 #[.pointer (some ⟨bl, 0, none⟩)] W fun e w' => e = .returned (.int .i64 used) ∧ W = w' := by
  have c7 : W.cell? ⟨bl, 7, none⟩ = some (.int .i64 used) := hl.whole.cell 7
  clear hl
  go_enter Tryz.func165, Tryz.ntmps165
  go_wp2
  go_ret
  exact ⟨rfl, rfl⟩
theorem lleft_any (hl : Lg W bl bd h at_ next used) (h0 : 0 ≤ used) (h1 : used ≤ 60000) (hs : h.sec < 60000) : Calls Tryz.prog 111 #[.pointer (some ⟨bl, 0, none⟩)] W fun e w' => e = .returned (.int .i64 ((h.sec : Int) - used)) ∧ W = w' := by
  have H1 := hide (lsec_any hl)
  have H2 := hide (ltaken_any hl)
  have hw : IntKind.i64.wrap ((h.sec : Int) - used) = (h.sec : Int) - used := IntWalk.i64_in _ (by omega)
  clear hl
  go_enter Tryz.func111, Tryz.ntmps111
  go_wp2_with (first | (go_at_call 20; refine H1.out.mono ?_; rintro e w' ⟨rfl, rfl⟩) | (go_at_call 165; refine H2.out.mono ?_; rintro e w' ⟨rfl, rfl⟩))
  go_ret
  exact ⟨rfl, rfl⟩
end
set_option maxHeartbeats 1000000 in
theorem texts_none (bm n : Nat) (first : Int) (W : World) (h : W.ownsMap Tryz.prog 66 shR bm n (.map [])) (hf : 0 ≤ first ∧ first < 18446744073709551616) :
    Calls Tryz.prog 31 #[.map (some bm), .int .u64 first] W fun e W' => e = .returned (.slice none 0 0) ∧ Below W.heap.size W W' := by
  have HM := hide h
  have HWf := hide (u64_wf hf.1 hf.2)
  clear h hf
  go_enter Tryz.func31, Tryz.ntmps31
  go_wp2_with fail
  go_step3
  go_wp2_with fail
  go_step3
  go_wp2_with fail
  have HM1 := hide (HM.out.alloc (.cells #[.pointer none, .slice none 0 0] 131))
  have HB1 := hide (show Below W.heap.size W (W.alloc (.cells #[.pointer none, .slice none 0 0] 131)) from (Below.refl _ _).alloc (Nat.le_refl _) _)
  have hz : ∀ w, (zeroValue 125).run Tryz.prog w = .ok (Sh.val ⟨0, false, ⟨#[]⟩⟩) w := Tryz.zeroValue125
  have HZ := hide hz
  clear hz
  generalize W.alloc (.cells #[.pointer none, .slice none 0 0] 131) = w1 at *
  go_loopw [5, 7] (fun y x wr => y = .slice none 0 0 ∧ x = .int .u64 first ∧ wr = w1) (fun _ _ _ => 0)
  case atStart => exact ⟨rfl, rfl, rfl⟩
  case round =>
    obtain ⟨rfl, rfl, rfl⟩ := hrel
    go_wp2_with (at_lookup; refine wpList_lookup_own_ok _ rfl _ _ 87 rfl 66 125 (Maps.int_keyed Tryz.underlying66) Tryz.underlying87 shR (HZ.out _) (Sh.data ⟨0, false, ⟨#[]⟩⟩) [] rfl bm n (.map []) rfl HM1.out (.int .u64 first) (.int .u64 first) rfl (Maps.keyOf_int_mk Tryz.underlying66 HWf.out) ?_)
    intro v ps hv
    obtain ⟨s, rfl⟩ := shR_inv _ _ hv
    have h0 : Maps.has (.map [] : DataW Unit) (.int .u64 first) = false := rfl
    clear hv
    rw [h0]
    unfold Sh.val
    go_wp2_with fail
    rw [Exit.noGoto_ret]
    go_ret
    exact ⟨rfl, HB1.out.alloc HB1.out.size _⟩
end Go.Proofs.YtnnfiicmplkakaaGreatDoor
namespace Go.Proofs.YtnnfiicmplkakaaGreatDoor
open Go.RowKit Go.Shelf

theorem below_drewN {B : Nat} {a w : World} (h : Below B a w) (n : Nat) : Below B a (w.drewN n) := ⟨h.os, h.tape, h.output, h.size, h.block⟩
/-- behind Open: a log that is new, and no text -/
def OpenRes (bd : Nat) (h : Hd) (at_ : Int) (W : World) (e : Ending) (W' : World) : Prop :=
  ∃ bl, e = .returned (.tuple #[.pointer (some ⟨bl, 0, none⟩), .slice none 0 0, .int .i64 0]) ∧ Lg W' bl bd h at_ h.first h.sec ∧ W.heap.size ≤ bl ∧ Below W.heap.size W W'
set_option maxHeartbeats 2000000 in
set_option maxRecDepth 20000 in
theorem walopen_any (bd n : Nat) (F : Nat → Prop) (c : Nat → List Int) (m : Nat) (xs : Nat → Option Hd) (h : Hd) (ia : Nat) (W : World) (hd : Ds W bd n F c m) (hm : m ≤ 100000)
    (hx : ∀ i, i < 2 → HdIs (c i) (xs i)) (hb : bestTo xs 2 = some (h, ia)) (hs1 : 1 ≤ h.sec) (hs : h.sec < 60000) (hn : 2 + h.sec ≤ n) (hy : ∀ i, i < h.sec → ShIs (c (2 + i)) none) (ht : Tab W) (hgd : h.good) :
    Calls Tryz.prog 16 #[.pointer (some ⟨bd, 0, none⟩)] W (OpenRes bd h ia W) := by
  have HD := hide hd
  have HT := hide ht
  have HGd := hide hgd
  have HLen := fun (W' : World) (hb : Below W.heap.size W W') => hide (show Calls Tryz.prog 21 #[.pointer (some ⟨bd, 0, none⟩)] W' (fun e w' => e = .returned (.int .i64 n) ∧ W' = w') from by
    obtain ⟨A0, k0, hln⟩ := (hd.below hb).len
    exact dlen_any bd n k0 A0 W' hln)
  have HCo := hide (show Calls Tryz.prog 28 #[.pointer (some ⟨bd, 0, none⟩)] W (fun e W' => e = .returned (.tuple #[h.val, .int .i64 (ia : Int), .int .i64 0]) ∧ Below W.heap.size W W') from by
    have := hd.counts hm (by omega) xs hx ht
    unfold CountsRes at this
    rw [hb] at this
    exact this)
  have HRd := fun W' (hb : Below W.heap.size W W') => hide (readall_any bd n F c m h.sec (fun _ => none) W' (hd.below hb) hm hs1 hs hn hy (ht.below hb))
  clear hd ht hx hy hb hgd
  go_enter Tryz.func16, Tryz.ntmps16
  go_wp2_with fail
  refine HCo.out.mono ?_
  rintro e w1 ⟨rfl, hb⟩
  have HB1 := hide hb
  have hb1sz := hb.size
  clear hb
  unfold Hd.val
  have hx2 := Whole.new w1 h.cells 84
  have hb2 : Below w1.heap.size w1 (w1.alloc (.cells h.cells.toArray 84)) := (Below.refl _ _).alloc (Nat.le_refl _) _
  change Whole (w1.alloc (.cells h.cells.toArray 84)) _ _ _ at hx2
  have HX2 := hide hx2
  have HB2 := hide (HB1.out.trans (hb2.mono HB1.out.size))
  clear hx2 hb2 HB1
  go_upto_region 6 with fail
  change Code.wp _ _ _ _ (w1.alloc (.cells h.cells.toArray 84))
  generalize w1.alloc (.cells h.cells.toArray 84) = w2 at *
  generalize w1.heap.size = b5 at *
  have q2 : w2.cell? ⟨b5, 2, none⟩ = some (.int .i64 (h.sec : Int)) := HX2.out.cell 2
  have hia : ¬ (ia : Int) < 0 := by omega
  have hs1' : decide ((h.sec : Int) < 1) = false := by simp; omega
  have hs2' : decide ((n : Int) < 2 + (h.sec : Int)) = false := by simp; omega
  go_quiet (first | (go_at_call 21; refine Calls.quiet_of_same ((HLen _ (below_drewN HB2.out _)).out.mono fun _ _ h => ⟨h.1, h.2.symm⟩)))
  have HB3 := hide (below_drewN HB2.out nq)
  have HX3 := hide (HX2.out.below (below_drewN (Below.refl w2.heap.size w2) nq) HX2.out.lt)
  clear HB2 HX2 q2
  generalize w2.drewN nq = w3 at *
  have q2 : w3.cell? ⟨b5, 2, none⟩ = some (.int .i64 (h.sec : Int)) := HX3.out.cell 2
  go_wp2_with fail
  refine (HRd w3 HB3.out).out.mono ?_
  rintro e w4 ⟨bm, rfl, hmp, hbm, hb⟩
  rw [shTo_none] at hmp
  have HM4 := hide hmp
  have HB4 := hide (HB3.out.trans (hb.mono HB3.out.size))
  have HX4 := hide (HX3.out.below hb HX3.out.lt)
  clear hmp hb HX3 HB3 q2
  go_upto_region 11 with fail
  have hbl := HX4.out.lt
  refine wp_region_held_drew (S := (fun w' => Below w4.heap.size w4 w')) (by kernel_rfl) ((Below.refl _ _).drew) (fun hHeld => ?_)
  have HBd := hide (HB4.out.trans (hHeld.mono HB4.out.size))
  have HMd := hide (HM4.out.below hHeld)
  generalize w4.drew = wd at *
  refine wpAnyH_take (i := 0) (v := ?vq1) rfl (by kernel_rfl) (by kernel_rfl) (by kernel_rfl) (fun _ _ _ h => h) (Or.inl ⟨by rfl, ?hq1⟩) (by assumption) ?rq1
  case hq1 => (intro wq hSw; go_simp; (try with_reducible rfl))
  try simp only [Act.put, List.getElem_toArray, List.getElem_cons_zero, List.setIfInBounds_toArray, List.set_cons_zero, List.set_cons_succ]
  refine wpAnyH_take (i := 1) (v := ?vq2) rfl (by kernel_rfl) (by kernel_rfl) (by kernel_rfl) (fun _ _ _ h => h) (Or.inl ⟨by rfl, ?hq2⟩) (by assumption) ?rq2
  case hq2 => (intro wq hSw; have hX := HX4.out.below hSw hbl; have e0 := hX.cell 0; have e1 := hX.cell 1; have e2 := hX.cell 2; have e3 := hX.cell 3; unfold Hd.cells at e0 e1 e2 e3; simp only [List.getElem?_cons_zero, List.getElem?_cons_succ] at e0 e1 e2 e3; go_simp; (try with_reducible rfl))
  try simp only [Act.put, List.getElem_toArray, List.getElem_cons_zero, List.getElem_cons_succ, List.setIfInBounds_toArray, List.set_cons_zero, List.set_cons_succ]
  refine wpAnyH_take (i := 2) (v := ?vq3) rfl (by kernel_rfl) (by kernel_rfl) (by kernel_rfl) (fun _ _ _ h => h) (Or.inl ⟨by rfl, ?hq3⟩) (by assumption) ?rq3
  case hq3 => (intro wq hSw; go_simp; (try with_reducible rfl))
  try simp only [Act.put, List.getElem_toArray, List.getElem_cons_zero, List.getElem_cons_succ, List.setIfInBounds_toArray, List.set_cons_zero, List.set_cons_succ]
  refine wpAnyH_take (i := 3) (v := ?vq4) rfl (by kernel_rfl) (by kernel_rfl) (by kernel_rfl) (fun _ _ _ h => h) (Or.inl ⟨by rfl, ?hq4⟩) (by assumption) ?rq4
  case hq4 => (intro wq hSw; go_simp; (try with_reducible rfl))
  try simp only [Act.put, List.getElem_toArray, List.getElem_cons_zero, List.getElem_cons_succ, List.setIfInBounds_toArray, List.set_cons_zero, List.set_cons_succ]
  refine wpAnyH_take (i := 4) (v := ?vq5) rfl (by kernel_rfl) (by kernel_rfl) (by kernel_rfl) (fun _ _ _ h => h) (Or.inl ⟨by rfl, ?hq5⟩) (by assumption) ?rq5
  case hq5 => (intro wq hSw; go_simp; (try with_reducible rfl))
  try simp only [Act.put, List.getElem_toArray, List.getElem_cons_zero, List.getElem_cons_succ, List.setIfInBounds_toArray, List.set_cons_zero, List.set_cons_succ]
  refine wpAnyH_take (i := 5) (v := ?vq6) rfl (by kernel_rfl) (by kernel_rfl) (by kernel_rfl) (fun _ _ _ h => h) (Or.inl ⟨by rfl, ?hq6⟩) (by assumption) ?rq6
  case hq6 => (intro wq hSw; have hX := HX4.out.below hSw hbl; have e0 := hX.cell 0; have e1 := hX.cell 1; have e2 := hX.cell 2; have e3 := hX.cell 3; unfold Hd.cells at e0 e1 e2 e3; simp only [List.getElem?_cons_zero, List.getElem?_cons_succ] at e0 e1 e2 e3; go_simp; (try with_reducible rfl))
  try simp only [Act.put, List.getElem_toArray, List.getElem_cons_zero, List.getElem_cons_succ, List.setIfInBounds_toArray, List.set_cons_zero, List.set_cons_succ]
  refine wpAnyH_take (i := 7) (v := ?vq7) rfl (by kernel_rfl) (by kernel_rfl) (by kernel_rfl) (fun _ _ _ h => h) (Or.inl ⟨by rfl, ?hq7⟩) (by assumption) ?rq7
  case hq7 => (intro wq hSw; go_simp; (try with_reducible rfl))
  try simp only [Act.put, List.getElem_toArray, List.getElem_cons_zero, List.getElem_cons_succ, List.setIfInBounds_toArray, List.set_cons_zero, List.set_cons_succ]
  refine wpAnyH_take (i := 8) (v := ?vq8) rfl (by kernel_rfl) (by kernel_rfl) (by kernel_rfl) (fun _ _ _ h => h) (Or.inl ⟨by rfl, ?hq8⟩) (by assumption) ?rq8
  case hq8 => (intro wq hSw; have hX := HX4.out.below hSw hbl; have e0 := hX.cell 0; have e1 := hX.cell 1; have e2 := hX.cell 2; have e3 := hX.cell 3; unfold Hd.cells at e0 e1 e2 e3; simp only [List.getElem?_cons_zero, List.getElem?_cons_succ] at e0 e1 e2 e3; go_simp; (try with_reducible rfl))
  try simp only [Act.put, List.getElem_toArray, List.getElem_cons_zero, List.getElem_cons_succ, List.setIfInBounds_toArray, List.set_cons_zero, List.set_cons_succ]
  refine wpAnyH_take (i := 11) (v := ?vq9) rfl (by kernel_rfl) (by kernel_rfl) (by kernel_rfl) (fun _ _ _ h => h) (Or.inl ⟨by rfl, ?hq9⟩) (by assumption) ?rq9
  case hq9 => (intro wq hSw; go_simp; (try with_reducible rfl))
  try simp only [Act.put, List.getElem_toArray, List.getElem_cons_zero, List.getElem_cons_succ, List.setIfInBounds_toArray, List.set_cons_zero, List.set_cons_succ]
  refine wpAnyH_take (i := 12) (v := ?vq10) rfl (by kernel_rfl) (by kernel_rfl) (by kernel_rfl) (fun _ _ _ h => h) (Or.inl ⟨by rfl, ?hq10⟩) (by assumption) ?rq10
  case hq10 => (intro wq hSw; go_simp; (try with_reducible rfl))
  try simp only [Act.put, List.getElem_toArray, List.getElem_cons_zero, List.getElem_cons_succ, List.setIfInBounds_toArray, List.set_cons_zero, List.set_cons_succ]
  refine wpAnyH_take (i := 13) (v := ?vq11) rfl (by kernel_rfl) (by kernel_rfl) (by kernel_rfl) (fun _ _ _ h => h) (Or.inl ⟨by rfl, ?hq11⟩) (by assumption) ?rq11
  case hq11 => (intro wq hSw; have hX := HX4.out.below hSw hbl; have e0 := hX.cell 0; have e1 := hX.cell 1; have e2 := hX.cell 2; have e3 := hX.cell 3; unfold Hd.cells at e0 e1 e2 e3; simp only [List.getElem?_cons_zero, List.getElem?_cons_succ] at e0 e1 e2 e3; go_simp; (try with_reducible rfl))
  try simp only [Act.put, List.getElem_toArray, List.getElem_cons_zero, List.getElem_cons_succ, List.setIfInBounds_toArray, List.set_cons_zero, List.set_cons_succ]
  refine wpAnyH_ready (rs := [6]) (by kernel_rfl) (by simp) ?_
  refine AllReadyH.cons (o := _) rfl (fun K hK => ?_) ?_
  · skip
    go_simp
    obtain ⟨nn, hnn, hown⟩ := HMd.out
    refine (next_any bm nn _ h.first wd hown HGd.out.2.1).mono ?_
    rintro e wn ⟨⟨vn, rfl, _, hv⟩, hb⟩
    obtain rfl : vn = h.first := hv has_none
    have HBn := hide (HBd.out.trans (hb.mono HBd.out.size))
    have hHn := hHeld.trans (hb.mono hHeld.size)
    have HMn := hide (HMd.out.below hb)
    clear hv hb hown
    refine hK.out _ _ (hHn) (fun hHeld => ?_)
    clear hK K HBd HMd
    try simp only [Act.put, List.getElem_toArray, List.getElem_cons_zero, List.getElem_cons_succ, List.setIfInBounds_toArray, List.set_cons_zero, List.set_cons_succ]
    refine wpAnyH_take (i := 9) (v := ?vq12) rfl (by kernel_rfl) (by kernel_rfl) (by kernel_rfl) (fun _ _ _ h => h) (Or.inl ⟨by rfl, ?hq12⟩) (by assumption) ?rq12
    case hq12 => (intro wq hSw; go_simp; (try with_reducible rfl))
    try simp only [Act.put, List.getElem_toArray, List.getElem_cons_zero, List.getElem_cons_succ, List.setIfInBounds_toArray, List.set_cons_zero, List.set_cons_succ]
    refine wpAnyH_ready (rs := [10, 14]) (by kernel_rfl) (by simp) ?_
    refine AllReadyH.cons (o := _) rfl (fun K hK => ?_) ?_
    · skip
      go_simp
      have hbx := Whole.new wn [.pointer (some ⟨bd, 0, none⟩), .int .u64 h.gen, .int .u64 h.first, .int .i64 (h.sec : Int), .string h.note, .int .i64 (ia : Int), .int .u64 h.first, .int .i64 (h.sec : Int), .bool false] 92
      have hbw := (Below.refl wn.heap.size wn).alloc (Nat.le_refl _) (.cells #[.pointer (some ⟨bd, 0, none⟩), .int .u64 h.gen, .int .u64 h.first, .int .i64 (h.sec : Int), .string h.note, .int .i64 (ia : Int), .int .u64 h.first, .int .i64 (h.sec : Int), .bool false] 92)
      have HBx := hide (HBn.out.trans (hbw.mono HBn.out.size))
      have hHx := hHeld.trans (hbw.mono hHeld.size)
      have HMx := hide (HMn.out.below hbw)
      change Whole (wn.alloc (.cells #[.pointer (some ⟨bd, 0, none⟩), .int .u64 h.gen, .int .u64 h.first, .int .i64 (h.sec : Int), .string h.note, .int .i64 (ia : Int), .int .u64 h.first, .int .i64 (h.sec : Int), .bool false] 92)) _ _ _ at hbx
      have HLx := hide (show Lg _ _ bd h ia h.first h.sec from hbx)
      have hbls : W.heap.size ≤ wn.heap.size := HBn.out.size
      refine hK.out _ _ (hHx) (fun hHeld => ?_)
      clear hK K hbw hbx
      try simp only [Act.put, List.getElem_toArray, List.getElem_cons_zero, List.getElem_cons_succ, List.setIfInBounds_toArray, List.set_cons_zero, List.set_cons_succ]
      generalize wn.alloc (.cells #[.pointer (some ⟨bd, 0, none⟩), .int .u64 h.gen, .int .u64 h.first, .int .i64 (h.sec : Int), .string h.note, .int .i64 (ia : Int), .int .u64 h.first, .int .i64 (h.sec : Int), .bool false] 92) = wx at *
      generalize wn.heap.size = bl at *
      refine wpAnyH_ready (rs := [14]) (by kernel_rfl) (by simp) ?_
      refine AllReadyH.cons (o := _) rfl (fun K hK => ?_) ?_
      · skip
        go_simp
        obtain ⟨nn, hnn, hown⟩ := HMx.out
        refine (texts_none bm nn h.first wx hown HGd.out.2.1).mono ?_
        rintro e wt ⟨rfl, hb⟩
        have HBt := hide (HBx.out.trans (hb.mono HBx.out.size))
        have hHt := hHeld.trans (hb.mono hHeld.size)
        have HLt := hide (HLx.out.below hb)
        refine hK.out _ _ (hHt) (fun hHeld => ?_)
        clear hK K hb hown
        try simp only [Act.put, List.getElem_toArray, List.getElem_cons_zero, List.getElem_cons_succ, List.setIfInBounds_toArray, List.set_cons_zero, List.set_cons_succ]
        refine wpAnyH_take (i := 15) (v := ?vq13) rfl (by kernel_rfl) (by kernel_rfl) (by kernel_rfl) (fun _ _ _ h => h) (Or.inl ⟨by rfl, ?hq13⟩) (by assumption) ?rq13
        case hq13 => (intro wq hSw; go_simp; (try with_reducible rfl))
        try simp only [Act.put, List.getElem_toArray, List.getElem_cons_zero, List.getElem_cons_succ, List.setIfInBounds_toArray, List.set_cons_zero, List.set_cons_succ]
        refine wpAnyH_take (i := 16) (v := ?vq14) rfl (by kernel_rfl) (by kernel_rfl) (by kernel_rfl) (fun _ _ _ h => h) (Or.inl ⟨by rfl, ?hq14⟩) (by assumption) ?rq14
        case hq14 => (intro wq hSw; go_simp; (try with_reducible rfl))
        try simp only [Act.put, List.getElem_toArray, List.getElem_cons_zero, List.getElem_cons_succ, List.setIfInBounds_toArray, List.set_cons_zero, List.set_cons_succ]
        refine wpAnyH_take (i := 17) (v := ?vq15) rfl (by kernel_rfl) (by kernel_rfl) (by kernel_rfl) (fun _ _ _ h => h) (Or.inl ⟨by rfl, ?hq15⟩) (by assumption) ?rq15
        case hq15 => (intro wq hSw; go_simp; (try with_reducible rfl))
        try simp only [Act.put, List.getElem_toArray, List.getElem_cons_zero, List.getElem_cons_succ, List.setIfInBounds_toArray, List.set_cons_zero, List.set_cons_succ]
        refine wpAnyH_done (by kernel_rfl) ?_ _
        go_wp2_with fail
        exact bodyPost_ret (v := .tuple #[.pointer (some ⟨bl, 0, none⟩), .slice none 0 0, .int .i64 0]) (by simp [results, Tryz.results16, go_sem]) rfl ⟨_, rfl, HLt.out, hbls, HBt.out⟩
      exact AllReadyH.nil
    refine AllReadyH.cons (o := _) rfl (fun K hK => ?_) ?_
    · skip
      go_simp
      obtain ⟨nn, hnn, hown⟩ := HMn.out
      refine (texts_none bm nn h.first wn hown HGd.out.2.1).mono ?_
      rintro e wt ⟨rfl, hb⟩
      have HBt := hide (HBn.out.trans (hb.mono HBn.out.size))
      have hHt := hHeld.trans (hb.mono hHeld.size)
      have HMt := hide (HMn.out.below hb)
      refine hK.out _ _ (hHt) (fun hHeld => ?_)
      clear hK K hb hown
      try simp only [Act.put, List.getElem_toArray, List.getElem_cons_zero, List.getElem_cons_succ, List.setIfInBounds_toArray, List.set_cons_zero, List.set_cons_succ]
      refine wpAnyH_ready (rs := [10]) (by kernel_rfl) (by simp) ?_
      refine AllReadyH.cons (o := _) rfl (fun K hK => ?_) ?_
      · skip
        go_simp
        have hbx := Whole.new wt [.pointer (some ⟨bd, 0, none⟩), .int .u64 h.gen, .int .u64 h.first, .int .i64 (h.sec : Int), .string h.note, .int .i64 (ia : Int), .int .u64 h.first, .int .i64 (h.sec : Int), .bool false] 92
        have hbw := (Below.refl wt.heap.size wt).alloc (Nat.le_refl _) (.cells #[.pointer (some ⟨bd, 0, none⟩), .int .u64 h.gen, .int .u64 h.first, .int .i64 (h.sec : Int), .string h.note, .int .i64 (ia : Int), .int .u64 h.first, .int .i64 (h.sec : Int), .bool false] 92)
        have HBx := hide (HBt.out.trans (hbw.mono HBt.out.size))
        have hHx := hHeld.trans (hbw.mono hHeld.size)
        have HMx := hide (HMt.out.below hbw)
        change Whole (wt.alloc (.cells #[.pointer (some ⟨bd, 0, none⟩), .int .u64 h.gen, .int .u64 h.first, .int .i64 (h.sec : Int), .string h.note, .int .i64 (ia : Int), .int .u64 h.first, .int .i64 (h.sec : Int), .bool false] 92)) _ _ _ at hbx
        have HLx := hide (show Lg _ _ bd h ia h.first h.sec from hbx)
        have hbls : W.heap.size ≤ wt.heap.size := HBt.out.size
        refine hK.out _ _ (hHx) (fun hHeld => ?_)
        clear hK K hbw hbx
        try simp only [Act.put, List.getElem_toArray, List.getElem_cons_zero, List.getElem_cons_succ, List.setIfInBounds_toArray, List.set_cons_zero, List.set_cons_succ]
        generalize wt.alloc (.cells #[.pointer (some ⟨bd, 0, none⟩), .int .u64 h.gen, .int .u64 h.first, .int .i64 (h.sec : Int), .string h.note, .int .i64 (ia : Int), .int .u64 h.first, .int .i64 (h.sec : Int), .bool false] 92) = wx at *
        generalize wt.heap.size = bl at *
        refine wpAnyH_take (i := 15) (v := ?vq16) rfl (by kernel_rfl) (by kernel_rfl) (by kernel_rfl) (fun _ _ _ h => h) (Or.inl ⟨by rfl, ?hq16⟩) (by assumption) ?rq16
        case hq16 => (intro wq hSw; go_simp; (try with_reducible rfl))
        try simp only [Act.put, List.getElem_toArray, List.getElem_cons_zero, List.getElem_cons_succ, List.setIfInBounds_toArray, List.set_cons_zero, List.set_cons_succ]
        refine wpAnyH_take (i := 16) (v := ?vq17) rfl (by kernel_rfl) (by kernel_rfl) (by kernel_rfl) (fun _ _ _ h => h) (Or.inl ⟨by rfl, ?hq17⟩) (by assumption) ?rq17
        case hq17 => (intro wq hSw; go_simp; (try with_reducible rfl))
        try simp only [Act.put, List.getElem_toArray, List.getElem_cons_zero, List.getElem_cons_succ, List.setIfInBounds_toArray, List.set_cons_zero, List.set_cons_succ]
        refine wpAnyH_take (i := 17) (v := ?vq18) rfl (by kernel_rfl) (by kernel_rfl) (by kernel_rfl) (fun _ _ _ h => h) (Or.inl ⟨by rfl, ?hq18⟩) (by assumption) ?rq18
        case hq18 => (intro wq hSw; go_simp; (try with_reducible rfl))
        try simp only [Act.put, List.getElem_toArray, List.getElem_cons_zero, List.getElem_cons_succ, List.setIfInBounds_toArray, List.set_cons_zero, List.set_cons_succ]
        refine wpAnyH_done (by kernel_rfl) ?_ _
        go_wp2_with fail
        exact bodyPost_ret (v := .tuple #[.pointer (some ⟨bl, 0, none⟩), .slice none 0 0, .int .i64 0]) (by simp [results, Tryz.results16, go_sem]) rfl ⟨_, rfl, HLx.out, hbls, HBx.out⟩
      exact AllReadyH.nil
    exact AllReadyH.nil
  exact AllReadyH.nil
end Go.Proofs.YtnnfiicmplkakaaGreatDoor
namespace Go.Proofs.YtnnfiicmplkakaaGreatDoor
open Go.RowKit Go.Shelf

/-- a log and its disk -/
structure LD (W : World) (bl bd n : Nat) (F : Nat → Prop) (c : Nat → List Int) (m : Nat) (h : Hd) (at_ next used : Int) : Prop where
  lg : Lg W bl bd h at_ next used
  ds : Ds W bd n F c m
  ne : ¬ F bl
def lF (bl : Nat) (F : Nat → Prop) (k : Nat) : Prop := k = bl ∨ F k
def LDRes (bl bd n : Nat) (F : Nat → Prop) (c : Nat → List Int) (m : Nat) (h : Hd) (at_ next used : Int) (W : World) (e : Ending) (W' : World) : Prop :=
  e = .returned (.int .i64 0) ∧ ∃ F', LD W' bl bd n F' c m h at_ next used ∧ Kp (lF bl F) W W' ∧ ∀ k, F' k → F k ∨ W.heap.size ≤ k
section
variable {W W' : World} {bl bd n : Nat} {F : Nat → Prop} {c : Nat → List Int} {m : Nat} {h : Hd} {at_ next used : Int}
theorem LD.below (hl : LD W bl bd n F c m h at_ next used) (hb : Below W.heap.size W W') : LD W' bl bd n F c m h at_ next used := ⟨hl.lg.below hb, hl.ds.below hb, hl.ne⟩
theorem LD.lt (hl : LD W bl bd n F c m h at_ next used) : bl < W.heap.size := hl.lg.whole.lt
theorem LDRes.from_ {W1 : World} {e : Ending} (hb : Below W.heap.size W W1) (hr : LDRes bl bd n F c m h at_ next used W1 e W') : LDRes bl bd n F c m h at_ next used W e W' := by
  obtain ⟨he, F', h1, h2, h3⟩ := hr
  exact ⟨he, F', h1, (Kp.of_below hb).same h2, fun k hk => (h3 k hk).imp id (fun h => Nat.le_trans hb.size h)⟩
end
set_option maxHeartbeats 1000000 in
/-- does, where the deed answers that all is well -/
theorem does_any {bl bd n : Nat} {F : Nat → Prop} {c : Nat → List Int} {m : Nat} {h : Hd} {at_ next used : Int} {c' : Nat → List Int} {m' : Nat} {h' : Hd} {at' next' used' : Int} (f : FuncId) (cap : Array Value) (W : World)
    (hl : LD W bl bd n F c m h at_ next used) (ef : ∀ args w, (callFunc f args).run Tryz.prog w = .ok (.enter f args) w) (hc : Calls Tryz.prog f cap W (LDRes bl bd n F c' m' h' at' next' used' W)) :
    Calls Tryz.prog 161 #[.pointer (some ⟨bl, 0, none⟩), .func (.func f) #[] cap] W (LDRes bl bd n F c' m' h' at' next' used' W) := by
  have c8 : W.cell? ⟨bl, 8, none⟩ = some (.bool false) := hl.lg.whole.cell 8
  have HC := hide hc
  clear hl hc
  go_enter Tryz.func161, Tryz.ntmps161
  go_wp2_with fail
  refine HC.out.mono ?_
  rintro e w1 ⟨rfl, F', h1, h2, h3⟩
  have HL := hide h1
  have HK := hide h2
  have HF := hide h3
  clear h1 h2 h3 c8
  have y8 : w1.cell? ⟨bl, 8, none⟩ = some (.bool false) := HL.out.lg.whole.cell 8
  have x8 := HL.out.lg.whole.frozen 8
  go_upto_region 5 with fail
  have hw := HL.out.lg.whole.set_ 8 (.bool false)
  have hk2 : Kp (OnlyF bl) w1 (w1.setCell ⟨bl, 8, none⟩ (.bool false)) := Kp.set_only _ _ _ _
  have HL2 := hide (show LD (w1.setCell ⟨bl, 8, none⟩ (.bool false)) bl bd n F' c' m' h' at' next' used' from ⟨hw, HL.out.ds.kp hk2 (fun k hf hg => HL.out.ne (by cases hg; exact hf)), HL.out.ne⟩)
  have HK2 := hide (show Kp (lF bl F) W (w1.setCell ⟨bl, 8, none⟩ (.bool false)) from HK.out.setCell (.inl (.inl rfl)) _)
  generalize w1.setCell ⟨bl, 8, none⟩ (.bool false) = w2 at *
  clear hw hk2 y8 x8
  go_wp2_with fail
  go_ret
  exact ⟨rfl, F', HL2.out, HK2.out, HF.out⟩
theorem other2_any (ia : Nat) (hi : ia ≤ 1) (w : World) : Calls Tryz.prog 158 #[.int .i64 (ia : Int)] w fun e w' => e = .returned (.int .i64 ((1 - ia : Nat) : Int)) ∧ w = w' := by
  refine (other_any (ia : Int) w (by omega) (by omega)).mono fun e w' hh => ⟨?_, hh.2⟩
  rw [hh.1]
  have : ia = 0 ∨ ia = 1 := by omega
  rcases this with rfl | rfl <;> rfl
def trimHd (h : Hd) (next : Int) : Hd := ⟨h.gen + 1, next, h.sec, h.note⟩
set_option maxHeartbeats 4000000 in
set_option maxRecDepth 20000 in
theorem trimFn_any (bl bd n : Nat) (F : Nat → Prop) (c : Nat → List Int) (m : Nat) (h : Hd) (ia : Nat) (next used : Int) (bb : Nat) (W : World) (hl : LD W bl bd n F c m h ia next used) (hbb : W.cell? ⟨bb, 0, none⟩ = some (.pointer (some ⟨bl, 0, none⟩))) (hnb : ¬ F bb) (hbl : bb ≠ bl)
    (hm : m + 1 ≤ 100000) (hg : h.good) (hg1 : h.gen < 4294967296) (hi : ia ≤ 1) (hnx : 0 ≤ next ∧ next < 18446744073709551616) (hn : 2 ≤ n) (ht : Tab W) :
    Calls Tryz.prog 162 #[.pointer (some ⟨bb, 0, none⟩)] W (LDRes bl bd n F (upd c (1 - ia) (trimHd h next).bytes) 0 (trimHd h next) ((1 - ia : Nat) : Int) next 0 W) := by
  have HL := hide hl
  have HT := hide ht
  have hbb0 := World.block_lt_of_cell? W _ (by rw [hbb])
  have hll := hl.lt
  have HGd := hide (show (trimHd h next).good from ⟨by have := hg.1; show 0 ≤ h.gen + 1 ∧ h.gen + 1 < _; omega, hnx, hg.2.2⟩)
  have hgw : IntKind.u64.wrap (h.gen + 1) = h.gen + 1 := by
    have := hg.1
    rw [IntKind.wrap_u64]
    omega
  have HGw := hide hgw
  have HOth := fun w' => hide (other2_any ia hi w')
  have HWr := fun W' (hd : Ds W' bd n F c m) (ht : Tab W') => hide (walwrite_any bd n F c m (1 - ia) (trimHd h next) W' hd hm (by omega) HGd.out ht)
  clear hl ht hg hg1 hnx
  go_enter Tryz.func162, Tryz.ntmps162
  go_upto_region 1 with fail
  refine wp_region_held_drew (S := (fun w' => Below W.heap.size W w')) (by kernel_rfl) ((Below.refl _ _).drew) (fun hHeld => ?_)
  generalize W.drew = wd at *
  refine wpAnyH_take (i := 0) (v := ?vaq1) rfl (by kernel_rfl) (by kernel_rfl) (by kernel_rfl) (fun _ _ _ h => h) (Or.inl ⟨by rfl, ?haq1⟩) (by assumption) ?raq1
  case haq1 => (intro wq hSw; have hX := (HL.out.below hSw).lg.whole; have hB := (hSw.cell (p := ⟨bb, 0, none⟩) hbb0).trans hbb; have e0 := hX.cell 0; have e1 := hX.cell 1; have e2 := hX.cell 2; have e3 := hX.cell 3; have e4 := hX.cell 4; have e5 := hX.cell 5; have e6 := hX.cell 6; simp only [List.getElem?_cons_zero, List.getElem?_cons_succ] at e0 e1 e2 e3 e4 e5 e6; go_simp; (try with_reducible rfl))
  try simp only [Act.put, List.getElem_toArray, List.getElem_cons_zero, List.setIfInBounds_toArray, List.set_cons_zero, List.set_cons_succ]
  refine wpAnyH_take (i := 1) (v := ?vaq2) rfl (by kernel_rfl) (by kernel_rfl) (by kernel_rfl) (fun _ _ _ h => h) (Or.inl ⟨by rfl, ?haq2⟩) (by assumption) ?raq2
  case haq2 => (intro wq hSw; go_simp; (try with_reducible rfl))
  try simp only [Act.put, List.getElem_toArray, List.getElem_cons_zero, List.getElem_cons_succ, List.setIfInBounds_toArray, List.set_cons_zero, List.set_cons_succ]
  refine wpAnyH_take (i := 2) (v := ?vaq3) rfl (by kernel_rfl) (by kernel_rfl) (by kernel_rfl) (fun _ _ _ h => h) (Or.inl ⟨by rfl, ?haq3⟩) (by assumption) ?raq3
  case haq3 => (intro wq hSw; go_simp; (try with_reducible rfl))
  try simp only [Act.put, List.getElem_toArray, List.getElem_cons_zero, List.getElem_cons_succ, List.setIfInBounds_toArray, List.set_cons_zero, List.set_cons_succ]
  refine wpAnyH_take (i := 3) (v := ?vaq4) rfl (by kernel_rfl) (by kernel_rfl) (by kernel_rfl) (fun _ _ _ h => h) (Or.inl ⟨by rfl, ?haq4⟩) (by assumption) ?raq4
  case haq4 => (intro wq hSw; go_simp; (try with_reducible rfl))
  try simp only [Act.put, List.getElem_toArray, List.getElem_cons_zero, List.getElem_cons_succ, List.setIfInBounds_toArray, List.set_cons_zero, List.set_cons_succ]
  refine wpAnyH_take (i := 4) (v := ?vaq5) rfl (by kernel_rfl) (by kernel_rfl) (by kernel_rfl) (fun _ _ _ h => h) (Or.inl ⟨by rfl, ?haq5⟩) (by assumption) ?raq5
  case haq5 => (intro wq hSw; have hX := (HL.out.below hSw).lg.whole; have hB := (hSw.cell (p := ⟨bb, 0, none⟩) hbb0).trans hbb; have e0 := hX.cell 0; have e1 := hX.cell 1; have e2 := hX.cell 2; have e3 := hX.cell 3; have e4 := hX.cell 4; have e5 := hX.cell 5; have e6 := hX.cell 6; simp only [List.getElem?_cons_zero, List.getElem?_cons_succ] at e0 e1 e2 e3 e4 e5 e6; go_simp; (try with_reducible rfl))
  try simp only [Act.put, List.getElem_toArray, List.getElem_cons_zero, List.getElem_cons_succ, List.setIfInBounds_toArray, List.set_cons_zero, List.set_cons_succ]
  refine wpAnyH_take (i := 5) (v := .int .u64 (h.gen + 1)) rfl (by kernel_rfl) (by kernel_rfl) (by kernel_rfl) (fun _ _ _ h => h) (Or.inl ⟨by rfl, ?haq6⟩) (by assumption) ?raq6
  case haq6 => (intro wq hSw; have hgw := HGw.out; go_simp; (try with_reducible rfl))
  try simp only [Act.put, List.getElem_toArray, List.getElem_cons_zero, List.getElem_cons_succ, List.setIfInBounds_toArray, List.set_cons_zero, List.set_cons_succ]
  refine wpAnyH_take (i := 6) (v := ?vaq7) rfl (by kernel_rfl) (by kernel_rfl) (by kernel_rfl) (fun _ _ _ h => h) (Or.inl ⟨by rfl, ?haq7⟩) (by assumption) ?raq7
  case haq7 => (intro wq hSw; have hX := (HL.out.below hSw).lg.whole; have hB := (hSw.cell (p := ⟨bb, 0, none⟩) hbb0).trans hbb; have e0 := hX.cell 0; have e1 := hX.cell 1; have e2 := hX.cell 2; have e3 := hX.cell 3; have e4 := hX.cell 4; have e5 := hX.cell 5; have e6 := hX.cell 6; simp only [List.getElem?_cons_zero, List.getElem?_cons_succ] at e0 e1 e2 e3 e4 e5 e6; go_simp; (try with_reducible rfl))
  try simp only [Act.put, List.getElem_toArray, List.getElem_cons_zero, List.getElem_cons_succ, List.setIfInBounds_toArray, List.set_cons_zero, List.set_cons_succ]
  refine wpAnyH_take (i := 7) (v := ?vaq8) rfl (by kernel_rfl) (by kernel_rfl) (by kernel_rfl) (fun _ _ _ h => h) (Or.inl ⟨by rfl, ?haq8⟩) (by assumption) ?raq8
  case haq8 => (intro wq hSw; go_simp; (try with_reducible rfl))
  try simp only [Act.put, List.getElem_toArray, List.getElem_cons_zero, List.getElem_cons_succ, List.setIfInBounds_toArray, List.set_cons_zero, List.set_cons_succ]
  refine wpAnyH_take (i := 8) (v := ?vaq9) rfl (by kernel_rfl) (by kernel_rfl) (by kernel_rfl) (fun _ _ _ h => h) (Or.inl ⟨by rfl, ?haq9⟩) (by assumption) ?raq9
  case haq9 => (intro wq hSw; go_simp; (try with_reducible rfl))
  try simp only [Act.put, List.getElem_toArray, List.getElem_cons_zero, List.getElem_cons_succ, List.setIfInBounds_toArray, List.set_cons_zero, List.set_cons_succ]
  refine wpAnyH_take (i := 9) (v := ?vaq10) rfl (by kernel_rfl) (by kernel_rfl) (by kernel_rfl) (fun _ _ _ h => h) (Or.inl ⟨by rfl, ?haq10⟩) (by assumption) ?raq10
  case haq10 => (intro wq hSw; have hX := (HL.out.below hSw).lg.whole; have hB := (hSw.cell (p := ⟨bb, 0, none⟩) hbb0).trans hbb; have e0 := hX.cell 0; have e1 := hX.cell 1; have e2 := hX.cell 2; have e3 := hX.cell 3; have e4 := hX.cell 4; have e5 := hX.cell 5; have e6 := hX.cell 6; simp only [List.getElem?_cons_zero, List.getElem?_cons_succ] at e0 e1 e2 e3 e4 e5 e6; go_simp; (try with_reducible rfl))
  try simp only [Act.put, List.getElem_toArray, List.getElem_cons_zero, List.getElem_cons_succ, List.setIfInBounds_toArray, List.set_cons_zero, List.set_cons_succ]
  refine wpAnyH_take (i := 10) (v := ?vaq11) rfl (by kernel_rfl) (by kernel_rfl) (by kernel_rfl) (fun _ _ _ h => h) (Or.inl ⟨by rfl, ?haq11⟩) (by assumption) ?raq11
  case haq11 => (intro wq hSw; have hX := (HL.out.below hSw).lg.whole; have hB := (hSw.cell (p := ⟨bb, 0, none⟩) hbb0).trans hbb; have e0 := hX.cell 0; have e1 := hX.cell 1; have e2 := hX.cell 2; have e3 := hX.cell 3; have e4 := hX.cell 4; have e5 := hX.cell 5; have e6 := hX.cell 6; simp only [List.getElem?_cons_zero, List.getElem?_cons_succ] at e0 e1 e2 e3 e4 e5 e6; go_simp; (try with_reducible rfl))
  try simp only [Act.put, List.getElem_toArray, List.getElem_cons_zero, List.getElem_cons_succ, List.setIfInBounds_toArray, List.set_cons_zero, List.set_cons_succ]
  refine wpAnyH_take (i := 11) (v := ?vaq12) rfl (by kernel_rfl) (by kernel_rfl) (by kernel_rfl) (fun _ _ _ h => h) (Or.inl ⟨by rfl, ?haq12⟩) (by assumption) ?raq12
  case haq12 => (intro wq hSw; go_simp; (try with_reducible rfl))
  try simp only [Act.put, List.getElem_toArray, List.getElem_cons_zero, List.getElem_cons_succ, List.setIfInBounds_toArray, List.set_cons_zero, List.set_cons_succ]
  refine wpAnyH_take (i := 12) (v := ?vaq13) rfl (by kernel_rfl) (by kernel_rfl) (by kernel_rfl) (fun _ _ _ h => h) (Or.inl ⟨by rfl, ?haq13⟩) (by assumption) ?raq13
  case haq13 => (intro wq hSw; go_simp; (try with_reducible rfl))
  try simp only [Act.put, List.getElem_toArray, List.getElem_cons_zero, List.getElem_cons_succ, List.setIfInBounds_toArray, List.set_cons_zero, List.set_cons_succ]
  refine wpAnyH_take (i := 13) (v := ?vaq14) rfl (by kernel_rfl) (by kernel_rfl) (by kernel_rfl) (fun _ _ _ h => h) (Or.inl ⟨by rfl, ?haq14⟩) (by assumption) ?raq14
  case haq14 => (intro wq hSw; go_simp; (try with_reducible rfl))
  try simp only [Act.put, List.getElem_toArray, List.getElem_cons_zero, List.getElem_cons_succ, List.setIfInBounds_toArray, List.set_cons_zero, List.set_cons_succ]
  refine wpAnyH_take (i := 14) (v := ?vaq15) rfl (by kernel_rfl) (by kernel_rfl) (by kernel_rfl) (fun _ _ _ h => h) (Or.inl ⟨by rfl, ?haq15⟩) (by assumption) ?raq15
  case haq15 => (intro wq hSw; have hX := (HL.out.below hSw).lg.whole; have hB := (hSw.cell (p := ⟨bb, 0, none⟩) hbb0).trans hbb; have e0 := hX.cell 0; have e1 := hX.cell 1; have e2 := hX.cell 2; have e3 := hX.cell 3; have e4 := hX.cell 4; have e5 := hX.cell 5; have e6 := hX.cell 6; simp only [List.getElem?_cons_zero, List.getElem?_cons_succ] at e0 e1 e2 e3 e4 e5 e6; go_simp; (try with_reducible rfl))
  try simp only [Act.put, List.getElem_toArray, List.getElem_cons_zero, List.getElem_cons_succ, List.setIfInBounds_toArray, List.set_cons_zero, List.set_cons_succ]
  refine wpAnyH_take (i := 15) (v := ?vaq16) rfl (by kernel_rfl) (by kernel_rfl) (by kernel_rfl) (fun _ _ _ h => h) (Or.inl ⟨by rfl, ?haq16⟩) (by assumption) ?raq16
  case haq16 => (intro wq hSw; have hX := (HL.out.below hSw).lg.whole; have hB := (hSw.cell (p := ⟨bb, 0, none⟩) hbb0).trans hbb; have e0 := hX.cell 0; have e1 := hX.cell 1; have e2 := hX.cell 2; have e3 := hX.cell 3; have e4 := hX.cell 4; have e5 := hX.cell 5; have e6 := hX.cell 6; simp only [List.getElem?_cons_zero, List.getElem?_cons_succ] at e0 e1 e2 e3 e4 e5 e6; go_simp; (try with_reducible rfl))
  try simp only [Act.put, List.getElem_toArray, List.getElem_cons_zero, List.getElem_cons_succ, List.setIfInBounds_toArray, List.set_cons_zero, List.set_cons_succ]
  refine wpAnyH_take (i := 16) (v := ?vaq17) rfl (by kernel_rfl) (by kernel_rfl) (by kernel_rfl) (fun _ _ _ h => h) (Or.inl ⟨by rfl, ?haq17⟩) (by assumption) ?raq17
  case haq17 => (intro wq hSw; go_simp; (try with_reducible rfl))
  try simp only [Act.put, List.getElem_toArray, List.getElem_cons_zero, List.getElem_cons_succ, List.setIfInBounds_toArray, List.set_cons_zero, List.set_cons_succ]
  refine wpAnyH_take (i := 17) (v := ?vaq18) rfl (by kernel_rfl) (by kernel_rfl) (by kernel_rfl) (fun _ _ _ h => h) (Or.inl ⟨by rfl, ?haq18⟩) (by assumption) ?raq18
  case haq18 => (intro wq hSw; go_simp; (try with_reducible rfl))
  try simp only [Act.put, List.getElem_toArray, List.getElem_cons_zero, List.getElem_cons_succ, List.setIfInBounds_toArray, List.set_cons_zero, List.set_cons_succ]
  refine wpAnyH_take (i := 18) (v := ?vaq19) rfl (by kernel_rfl) (by kernel_rfl) (by kernel_rfl) (fun _ _ _ h => h) (Or.inl ⟨by rfl, ?haq19⟩) (by assumption) ?raq19
  case haq19 => (intro wq hSw; go_simp; (try with_reducible rfl))
  try simp only [Act.put, List.getElem_toArray, List.getElem_cons_zero, List.getElem_cons_succ, List.setIfInBounds_toArray, List.set_cons_zero, List.set_cons_succ]
  refine wpAnyH_take (i := 19) (v := ?vaq20) rfl (by kernel_rfl) (by kernel_rfl) (by kernel_rfl) (fun _ _ _ h => h) (Or.inl ⟨by rfl, ?haq20⟩) (by assumption) ?raq20
  case haq20 => (intro wq hSw; have hX := (HL.out.below hSw).lg.whole; have hB := (hSw.cell (p := ⟨bb, 0, none⟩) hbb0).trans hbb; have e0 := hX.cell 0; have e1 := hX.cell 1; have e2 := hX.cell 2; have e3 := hX.cell 3; have e4 := hX.cell 4; have e5 := hX.cell 5; have e6 := hX.cell 6; simp only [List.getElem?_cons_zero, List.getElem?_cons_succ] at e0 e1 e2 e3 e4 e5 e6; go_simp; (try with_reducible rfl))
  try simp only [Act.put, List.getElem_toArray, List.getElem_cons_zero, List.getElem_cons_succ, List.setIfInBounds_toArray, List.set_cons_zero, List.set_cons_succ]
  refine wpAnyH_take (i := 20) (v := ?vaq21) rfl (by kernel_rfl) (by kernel_rfl) (by kernel_rfl) (fun _ _ _ h => h) (Or.inl ⟨by rfl, ?haq21⟩) (by assumption) ?raq21
  case haq21 => (intro wq hSw; go_simp; (try with_reducible rfl))
  try simp only [Act.put, List.getElem_toArray, List.getElem_cons_zero, List.getElem_cons_succ, List.setIfInBounds_toArray, List.set_cons_zero, List.set_cons_succ]
  refine wpAnyH_ready (rs := [21]) (by kernel_rfl) (by simp) ?_
  refine AllReadyH.cons (o := _) rfl (fun K hK => ?_) ?_
  · skip
    go_simp
    have hx := Whole.new wd hd0.cells 84
    have hb := (Below.refl wd.heap.size wd).alloc (Nat.le_refl _) (.cells hd0.cells.toArray 84)
    change Whole (wd.alloc (.cells hd0.cells.toArray 84)) _ _ _ at hx
    have HX := hide hx
    have hH := hHeld.trans (hb.mono hHeld.size)
    have hsz := hHeld.size
    refine hK.out _ _ (hH) (fun hHeld => ?_)
    clear hK K hx hb
    try simp only [Act.put, List.getElem_toArray, List.getElem_cons_zero, List.getElem_cons_succ, List.setIfInBounds_toArray, List.set_cons_zero, List.set_cons_succ]
    change wpAnyH _ _ _ _ _ _ _ _ (wd.alloc (.cells hd0.cells.toArray 84))
    replace hHeld : Below W.heap.size W (wd.alloc (.cells hd0.cells.toArray 84)) := hHeld
    clear hH
    generalize wd.alloc (.cells hd0.cells.toArray 84) = wa at *
    generalize wd.heap.size = bh at *
    refine wpAnyH_ready (rs := [22]) (by kernel_rfl) (by simp) ?_
    refine AllReadyH.cons (o := _) rfl (fun K hK => ?_) ?_
    · skip
      have y0 : wa.cell? ⟨bh, 0, none⟩ = some (.int .u64 0) := HX.out.cell 0
      have x0 := HX.out.frozen 0
      have y1 : wa.cell? ⟨bh, 1, none⟩ = some (.int .u64 0) := HX.out.cell 1
      have x1 := HX.out.frozen 1
      have y2 : wa.cell? ⟨bh, 2, none⟩ = some (.int .i64 0) := HX.out.cell 2
      have x2 := HX.out.frozen 2
      have y3 : wa.cell? ⟨bh, 3, none⟩ = some (.string ⟨#[]⟩) := HX.out.cell 3
      have x3 := HX.out.frozen 3
      go_simp
      have h1 := ((((HX.out).set_ 0 (.int .u64 (h.gen + 1))).set_ 1 (.int .u64 next)).set_ 2 (.int .i64 (h.sec : Int))).set_ 3 (.string h.note)
      have hH := ((((hHeld).setCell (p := ⟨bh, 0, none⟩) hsz (.int .u64 (h.gen + 1))).setCell (p := ⟨bh, 1, none⟩) hsz (.int .u64 next)).setCell (p := ⟨bh, 2, none⟩) hsz (.int .i64 (h.sec : Int))).setCell (p := ⟨bh, 3, none⟩) hsz (.string h.note)
      generalize ((((wa).setCell ⟨bh, 0, none⟩ (.int .u64 (h.gen + 1))).setCell ⟨bh, 1, none⟩ (.int .u64 next)).setCell ⟨bh, 2, none⟩ (.int .i64 (h.sec : Int))).setCell ⟨bh, 3, none⟩ (.string h.note) = wf at *
      refine hK.out _ _ (hH) (fun hHeld => ?_)
      clear hK K y0 x0 y1 x1 y2 x2 y3 x3
      try simp only [Act.put, List.getElem_toArray, List.getElem_cons_zero, List.getElem_cons_succ, List.setIfInBounds_toArray, List.set_cons_zero, List.set_cons_succ]
      refine wpAnyH_done (by kernel_rfl) ?_ _
      change Whole wf bh _ (trimHd h next).cells at h1
      have HX1 := hide h1
      have HL1 := hide (HL.out.below hHeld)
      have HB1 := hide hHeld
      have hbb1 : wf.cell? ⟨bb, 0, none⟩ = _ := (hHeld.cell (p := ⟨bb, 0, none⟩) hbb0).trans hbb
      have hbbl : bb < wf.heap.size := Nat.lt_of_lt_of_le hbb0 hHeld.size
      have HK1 := hide (Kp.of_below (F := lF bl F) hHeld)
      have hnh : ¬ F bh := fun hf => by have := HL.out.ds.lt hf; omega
      clear h1 HX hHeld hbb hH
      go_upto_region 2 with fail
      refine wp_region_held_drew (S := (fun w' => Kp F wf w')) (by kernel_rfl) ((Kp.refl _ _).drew) (fun hHeld => ?_)
      have HLd := hide (HL1.out.below (Below.refl wf.heap.size wf).drew)
      have HBd := hide (HB1.out.drew)
      generalize wf.drew = wd at *
      refine wpAnyH_take (i := 0) (v := ?vbq1) rfl (by kernel_rfl) (by kernel_rfl) (by kernel_rfl) (fun _ _ _ h => h) (Or.inl ⟨by rfl, ?hbq1⟩) (by assumption) ?rbq1
      case hbq1 => (intro wq hSw; have hX := HL1.out.lg.whole.kp hSw HL1.out.ne; have hB := (hSw.cell (p := ⟨bb, 0, none⟩) hbbl hnb).trans hbb1; have e0 := hX.cell 0; have e5 := hX.cell 5; have hY := HX1.out.kp hSw hnh; have z0 := hY.cell 0; have z1 := hY.cell 1; have z2 := hY.cell 2; have z3 := hY.cell 3; unfold trimHd Hd.cells at z0 z1 z2 z3; simp only [List.getElem?_cons_zero, List.getElem?_cons_succ] at e0 e5 z0 z1 z2 z3; go_simp; (try with_reducible rfl))
      try simp only [Act.put, List.getElem_toArray, List.getElem_cons_zero, List.setIfInBounds_toArray, List.set_cons_zero, List.set_cons_succ]
      refine wpAnyH_take (i := 1) (v := ?vbq2) rfl (by kernel_rfl) (by kernel_rfl) (by kernel_rfl) (fun _ _ _ h => h) (Or.inl ⟨by rfl, ?hbq2⟩) (by assumption) ?rbq2
      case hbq2 => (intro wq hSw; go_simp; (try with_reducible rfl))
      try simp only [Act.put, List.getElem_toArray, List.getElem_cons_zero, List.getElem_cons_succ, List.setIfInBounds_toArray, List.set_cons_zero, List.set_cons_succ]
      refine wpAnyH_take (i := 2) (v := ?vbq3) rfl (by kernel_rfl) (by kernel_rfl) (by kernel_rfl) (fun _ _ _ h => h) (Or.inl ⟨by rfl, ?hbq3⟩) (by assumption) ?rbq3
      case hbq3 => (intro wq hSw; go_simp; (try with_reducible rfl))
      try simp only [Act.put, List.getElem_toArray, List.getElem_cons_zero, List.getElem_cons_succ, List.setIfInBounds_toArray, List.set_cons_zero, List.set_cons_succ]
      refine wpAnyH_take (i := 3) (v := ?vbq4) rfl (by kernel_rfl) (by kernel_rfl) (by kernel_rfl) (fun _ _ _ h => h) (Or.inl ⟨by rfl, ?hbq4⟩) (by assumption) ?rbq4
      case hbq4 => (intro wq hSw; have hX := HL1.out.lg.whole.kp hSw HL1.out.ne; have hB := (hSw.cell (p := ⟨bb, 0, none⟩) hbbl hnb).trans hbb1; have e0 := hX.cell 0; have e5 := hX.cell 5; have hY := HX1.out.kp hSw hnh; have z0 := hY.cell 0; have z1 := hY.cell 1; have z2 := hY.cell 2; have z3 := hY.cell 3; unfold trimHd Hd.cells at z0 z1 z2 z3; simp only [List.getElem?_cons_zero, List.getElem?_cons_succ] at e0 e5 z0 z1 z2 z3; go_simp; (try with_reducible rfl))
      try simp only [Act.put, List.getElem_toArray, List.getElem_cons_zero, List.getElem_cons_succ, List.setIfInBounds_toArray, List.set_cons_zero, List.set_cons_succ]
      refine wpAnyH_take (i := 4) (v := ?vbq5) rfl (by kernel_rfl) (by kernel_rfl) (by kernel_rfl) (fun _ _ _ h => h) (Or.inl ⟨by rfl, ?hbq5⟩) (by assumption) ?rbq5
      case hbq5 => (intro wq hSw; have hX := HL1.out.lg.whole.kp hSw HL1.out.ne; have hB := (hSw.cell (p := ⟨bb, 0, none⟩) hbbl hnb).trans hbb1; have e0 := hX.cell 0; have e5 := hX.cell 5; have hY := HX1.out.kp hSw hnh; have z0 := hY.cell 0; have z1 := hY.cell 1; have z2 := hY.cell 2; have z3 := hY.cell 3; unfold trimHd Hd.cells at z0 z1 z2 z3; simp only [List.getElem?_cons_zero, List.getElem?_cons_succ] at e0 e5 z0 z1 z2 z3; go_simp; (try with_reducible rfl))
      try simp only [Act.put, List.getElem_toArray, List.getElem_cons_zero, List.getElem_cons_succ, List.setIfInBounds_toArray, List.set_cons_zero, List.set_cons_succ]
      refine wpAnyH_take (i := 5) (v := ?vbq6) rfl (by kernel_rfl) (by kernel_rfl) (by kernel_rfl) (fun _ _ _ h => h) (Or.inl ⟨by rfl, ?hbq6⟩) (by assumption) ?rbq6
      case hbq6 => (intro wq hSw; go_simp; (try with_reducible rfl))
      try simp only [Act.put, List.getElem_toArray, List.getElem_cons_zero, List.getElem_cons_succ, List.setIfInBounds_toArray, List.set_cons_zero, List.set_cons_succ]
      refine wpAnyH_take (i := 6) (v := ?vbq7) rfl (by kernel_rfl) (by kernel_rfl) (by kernel_rfl) (fun _ _ _ h => h) (Or.inl ⟨by rfl, ?hbq7⟩) (by assumption) ?rbq7
      case hbq7 => (intro wq hSw; go_simp; (try with_reducible rfl))
      try simp only [Act.put, List.getElem_toArray, List.getElem_cons_zero, List.getElem_cons_succ, List.setIfInBounds_toArray, List.set_cons_zero, List.set_cons_succ]
      refine wpAnyH_take (i := 7) (v := ?vbq8) rfl (by kernel_rfl) (by kernel_rfl) (by kernel_rfl) (fun _ _ _ h => h) (Or.inl ⟨by rfl, ?hbq8⟩) (by assumption) ?rbq8
      case hbq8 => (intro wq hSw; have hX := HL1.out.lg.whole.kp hSw HL1.out.ne; have hB := (hSw.cell (p := ⟨bb, 0, none⟩) hbbl hnb).trans hbb1; have e0 := hX.cell 0; have e5 := hX.cell 5; have hY := HX1.out.kp hSw hnh; have z0 := hY.cell 0; have z1 := hY.cell 1; have z2 := hY.cell 2; have z3 := hY.cell 3; unfold trimHd Hd.cells at z0 z1 z2 z3; simp only [List.getElem?_cons_zero, List.getElem?_cons_succ] at e0 e5 z0 z1 z2 z3; go_simp; (try with_reducible rfl))
      try simp only [Act.put, List.getElem_toArray, List.getElem_cons_zero, List.getElem_cons_succ, List.setIfInBounds_toArray, List.set_cons_zero, List.set_cons_succ]
      refine wpAnyH_take (i := 9) (v := ?vbq9) rfl (by kernel_rfl) (by kernel_rfl) (by kernel_rfl) (fun _ _ _ h => h) (Or.inl ⟨by rfl, ?hbq9⟩) (by assumption) ?rbq9
      case hbq9 => (intro wq hSw; have hX := HL1.out.lg.whole.kp hSw HL1.out.ne; have hB := (hSw.cell (p := ⟨bb, 0, none⟩) hbbl hnb).trans hbb1; have e0 := hX.cell 0; have e5 := hX.cell 5; have hY := HX1.out.kp hSw hnh; have z0 := hY.cell 0; have z1 := hY.cell 1; have z2 := hY.cell 2; have z3 := hY.cell 3; unfold trimHd Hd.cells at z0 z1 z2 z3; simp only [List.getElem?_cons_zero, List.getElem?_cons_succ] at e0 e5 z0 z1 z2 z3; go_simp; (try with_reducible rfl))
      try simp only [Act.put, List.getElem_toArray, List.getElem_cons_zero, List.getElem_cons_succ, List.setIfInBounds_toArray, List.set_cons_zero, List.set_cons_succ]
      refine wpAnyH_ready (rs := [8]) (by kernel_rfl) (by simp) ?_
      refine AllReadyH.cons (o := _) rfl (fun K hK => ?_) ?_
      · skip
        go_simp
        refine (HOth wd).out.mono ?_
        rintro e wo ⟨rfl, rfl⟩
        refine hK.out _ _ (hHeld) (fun hHeld => ?_)
        clear hK K 
        try simp only [Act.put, List.getElem_toArray, List.getElem_cons_zero, List.getElem_cons_succ, List.setIfInBounds_toArray, List.set_cons_zero, List.set_cons_succ]
        refine wpAnyH_ready (rs := [10]) (by kernel_rfl) (by simp) ?_
        refine AllReadyH.cons (o := _) rfl (fun K hK => ?_) ?_
        · skip
          go_simp
          refine (HWr wd HLd.out.ds (HT.out.below HBd.out)).out.mono ?_
          rintro e w3 ⟨rfl, F', g1, g2, g3⟩
          have HD3 := hide g1
          have HK3 := hide (hHeld.same g2)
          have HF3 := hide g3
          clear g1 g2 g3
          refine hK.out _ _ (HK3.out) (fun hHeld => ?_)
          clear hK K 
          try simp only [Act.put, List.getElem_toArray, List.getElem_cons_zero, List.getElem_cons_succ, List.setIfInBounds_toArray, List.set_cons_zero, List.set_cons_succ]
          refine wpAnyH_take (i := 11) (v := ?vbq10) rfl (by kernel_rfl) (by kernel_rfl) (by kernel_rfl) (fun _ _ _ h => h) (Or.inl ⟨by rfl, ?hbq10⟩) (by assumption) ?rbq10
          case hbq10 => (intro wq hSw; go_simp; (try with_reducible rfl))
          try simp only [Act.put, List.getElem_toArray, List.getElem_cons_zero, List.getElem_cons_succ, List.setIfInBounds_toArray, List.set_cons_zero, List.set_cons_succ]
          refine wpAnyH_done (by kernel_rfl) ?_ _
          have hsz3 : W.heap.size ≤ wf.heap.size := HB1.out.size
          have hszd := HBd.out.size
          have hbbW : bb < W.heap.size := hbb0
          have hbl3 : ¬ F' bl := fun hf => (HF3.out _ hf).elim HL1.out.ne (fun hge => by omega)
          have hbb3n : ¬ F' bb := fun hf => (HF3.out _ hf).elim hnb (fun hge => by omega)
          have hX3 := HL1.out.lg.whole.kp HK3.out HL1.out.ne
          have HX3 := hide hX3
          have HY3 := hide (HX1.out.kp HK3.out hnh)
          have hbb3 : w3.cell? ⟨bb, 0, none⟩ = _ := (HK3.out.cell (p := ⟨bb, 0, none⟩) hbbl hnb).trans hbb1
          have hb3l : bb < w3.heap.size := Nat.lt_of_lt_of_le hbbl HK3.out.size
          have hne3 : bh ≠ bl := by omega
          have HKW := hide (HK1.out.trans HK3.out (fun i hi => .inl (.inr hi)))
          have HFW := hide (show ∀ k, F' k → F k ∨ W.heap.size ≤ k from fun k hk => (HF3.out k hk).imp id (fun h => by omega))
          clear hX3 HX1 HL1 HK1 HK3 HF3 hHeld
          go_upto_region 5 with fail
          refine wp_region_held_drew (S := (fun w' => Kp (OnlyF bl) w3 w')) (by kernel_rfl) ((Kp.refl _ _).drew) (fun hHeld => ?_)
          have HXd := hide (HX3.out.kp (F := NoF) ((Kp.refl _ _).drew) (fun h => h.elim))
          generalize w3.drew = wd at *
          refine wpAnyH_take (i := 0) (v := ?vcq1) rfl (by kernel_rfl) (by kernel_rfl) (by kernel_rfl) (fun _ _ _ h => h) (Or.inl ⟨by rfl, ?hcq1⟩) (by assumption) ?rcq1
          case hcq1 => (intro wq hSw; have hB := (hSw.cell (p := ⟨bb, 0, none⟩) hb3l hbl).trans hbb3; have hY := HY3.out.kp hSw hne3; have z0 := hY.cell 0; have z1 := hY.cell 1; have z2 := hY.cell 2; have z3 := hY.cell 3; unfold trimHd Hd.cells at z0 z1 z2 z3; simp only [List.getElem?_cons_zero, List.getElem?_cons_succ] at z0 z1 z2 z3; go_simp; (try with_reducible rfl))
          try simp only [Act.put, List.getElem_toArray, List.getElem_cons_zero, List.setIfInBounds_toArray, List.set_cons_zero, List.set_cons_succ]
          refine wpAnyH_take (i := 1) (v := ?vcq2) rfl (by kernel_rfl) (by kernel_rfl) (by kernel_rfl) (fun _ _ _ h => h) (Or.inl ⟨by rfl, ?hcq2⟩) (by assumption) ?rcq2
          case hcq2 => (intro wq hSw; have hB := (hSw.cell (p := ⟨bb, 0, none⟩) hb3l hbl).trans hbb3; have hY := HY3.out.kp hSw hne3; have z0 := hY.cell 0; have z1 := hY.cell 1; have z2 := hY.cell 2; have z3 := hY.cell 3; unfold trimHd Hd.cells at z0 z1 z2 z3; simp only [List.getElem?_cons_zero, List.getElem?_cons_succ] at z0 z1 z2 z3; go_simp; (try with_reducible rfl))
          try simp only [Act.put, List.getElem_toArray, List.getElem_cons_zero, List.getElem_cons_succ, List.setIfInBounds_toArray, List.set_cons_zero, List.set_cons_succ]
          refine wpAnyH_take (i := 2) (v := ?vcq3) rfl (by kernel_rfl) (by kernel_rfl) (by kernel_rfl) (fun _ _ _ h => h) (Or.inl ⟨by rfl, ?hcq3⟩) (by assumption) ?rcq3
          case hcq3 => (intro wq hSw; have hB := (hSw.cell (p := ⟨bb, 0, none⟩) hb3l hbl).trans hbb3; have hY := HY3.out.kp hSw hne3; have z0 := hY.cell 0; have z1 := hY.cell 1; have z2 := hY.cell 2; have z3 := hY.cell 3; unfold trimHd Hd.cells at z0 z1 z2 z3; simp only [List.getElem?_cons_zero, List.getElem?_cons_succ] at z0 z1 z2 z3; go_simp; (try with_reducible rfl))
          try simp only [Act.put, List.getElem_toArray, List.getElem_cons_zero, List.getElem_cons_succ, List.setIfInBounds_toArray, List.set_cons_zero, List.set_cons_succ]
          refine wpAnyH_take (i := 3) (v := ?vcq4) rfl (by kernel_rfl) (by kernel_rfl) (by kernel_rfl) (fun _ _ _ h => h) (Or.inl ⟨by rfl, ?hcq4⟩) (by assumption) ?rcq4
          case hcq4 => (intro wq hSw; have hB := (hSw.cell (p := ⟨bb, 0, none⟩) hb3l hbl).trans hbb3; have hY := HY3.out.kp hSw hne3; have z0 := hY.cell 0; have z1 := hY.cell 1; have z2 := hY.cell 2; have z3 := hY.cell 3; unfold trimHd Hd.cells at z0 z1 z2 z3; simp only [List.getElem?_cons_zero, List.getElem?_cons_succ] at z0 z1 z2 z3; go_simp; (try with_reducible rfl))
          try simp only [Act.put, List.getElem_toArray, List.getElem_cons_zero, List.getElem_cons_succ, List.setIfInBounds_toArray, List.set_cons_zero, List.set_cons_succ]
          refine wpAnyH_take (i := 4) (v := ?vcq5) rfl (by kernel_rfl) (by kernel_rfl) (by kernel_rfl) (fun _ _ _ h => h) (Or.inl ⟨by rfl, ?hcq5⟩) (by assumption) ?rcq5
          case hcq5 => (intro wq hSw; have hB := (hSw.cell (p := ⟨bb, 0, none⟩) hb3l hbl).trans hbb3; have hY := HY3.out.kp hSw hne3; have z0 := hY.cell 0; have z1 := hY.cell 1; have z2 := hY.cell 2; have z3 := hY.cell 3; unfold trimHd Hd.cells at z0 z1 z2 z3; simp only [List.getElem?_cons_zero, List.getElem?_cons_succ] at z0 z1 z2 z3; go_simp; (try with_reducible rfl))
          try simp only [Act.put, List.getElem_toArray, List.getElem_cons_zero, List.getElem_cons_succ, List.setIfInBounds_toArray, List.set_cons_zero, List.set_cons_succ]
          refine wpAnyH_take (i := 5) (v := ?vcq6) rfl (by kernel_rfl) (by kernel_rfl) (by kernel_rfl) (fun _ _ _ h => h) (Or.inl ⟨by rfl, ?hcq6⟩) (by assumption) ?rcq6
          case hcq6 => (intro wq hSw; go_simp; (try with_reducible rfl))
          try simp only [Act.put, List.getElem_toArray, List.getElem_cons_zero, List.getElem_cons_succ, List.setIfInBounds_toArray, List.set_cons_zero, List.set_cons_succ]
          refine wpAnyH_take (i := 6) (v := ?vcq7) rfl (by kernel_rfl) (by kernel_rfl) (by kernel_rfl) (fun _ _ _ h => h) (Or.inl ⟨by rfl, ?hcq7⟩) (by assumption) ?rcq7
          case hcq7 => (intro wq hSw; go_simp; (try with_reducible rfl))
          try simp only [Act.put, List.getElem_toArray, List.getElem_cons_zero, List.getElem_cons_succ, List.setIfInBounds_toArray, List.set_cons_zero, List.set_cons_succ]
          refine wpAnyH_ready (rs := [7]) (by kernel_rfl) (by simp) ?_
          refine AllReadyH.cons (o := _) rfl (fun K hK => ?_) ?_
          · skip
            have y5 : wd.cell? ⟨bl, 5, none⟩ = some (.int .i64 (ia : Int)) := HXd.out.cell 5
            go_simp
            refine hK.out _ _ (hHeld) (fun hHeld => ?_)
            clear hK K y5
            try simp only [Act.put, List.getElem_toArray, List.getElem_cons_zero, List.getElem_cons_succ, List.setIfInBounds_toArray, List.set_cons_zero, List.set_cons_succ]
            refine wpAnyH_ready (rs := [8]) (by kernel_rfl) (by simp) ?_
            refine AllReadyH.cons (o := _) rfl (fun K hK => ?_) ?_
            · skip
              go_simp
              refine (HOth wd).out.mono ?_
              rintro e wo ⟨rfl, rfl⟩
              refine hK.out _ _ (hHeld) (fun hHeld => ?_)
              clear hK K 
              try simp only [Act.put, List.getElem_toArray, List.getElem_cons_zero, List.getElem_cons_succ, List.setIfInBounds_toArray, List.set_cons_zero, List.set_cons_succ]
              refine wpAnyH_take (i := 9) (v := ?vcq8) rfl (by kernel_rfl) (by kernel_rfl) (by kernel_rfl) (fun _ _ _ h => h) (Or.inl ⟨by rfl, ?hcq8⟩) (by assumption) ?rcq8
              case hcq8 => (intro wq hSw; go_simp; (try with_reducible rfl))
              try simp only [Act.put, List.getElem_toArray, List.getElem_cons_zero, List.getElem_cons_succ, List.setIfInBounds_toArray, List.set_cons_zero, List.set_cons_succ]
              refine wpAnyH_take (i := 10) (v := ?vcq9) rfl (by kernel_rfl) (by kernel_rfl) (by kernel_rfl) (fun _ _ _ h => h) (Or.inl ⟨by rfl, ?hcq9⟩) (by assumption) ?rcq9
              case hcq9 => (intro wq hSw; go_simp; (try with_reducible rfl))
              try simp only [Act.put, List.getElem_toArray, List.getElem_cons_zero, List.getElem_cons_succ, List.setIfInBounds_toArray, List.set_cons_zero, List.set_cons_succ]
              refine wpAnyH_ready (rs := [11]) (by kernel_rfl) (by simp) ?_
              refine AllReadyH.cons (o := _) rfl (fun K hK => ?_) ?_
              · skip
                have y1 : wd.cell? ⟨bl, 1, none⟩ = some (.int .u64 h.gen) := HXd.out.cell 1
                have x1 := HXd.out.frozen 1
                have y2 : wd.cell? ⟨bl, 2, none⟩ = some (.int .u64 h.first) := HXd.out.cell 2
                have x2 := HXd.out.frozen 2
                have y3 : wd.cell? ⟨bl, 3, none⟩ = some (.int .i64 (h.sec : Int)) := HXd.out.cell 3
                have x3 := HXd.out.frozen 3
                have y4 : wd.cell? ⟨bl, 4, none⟩ = some (.string h.note) := HXd.out.cell 4
                have x4 := HXd.out.frozen 4
                go_simp
                have h1 := ((((HXd.out).set_ 1 (.int .u64 (h.gen + 1))).set_ 2 (.int .u64 next)).set_ 3 (.int .i64 (h.sec : Int))).set_ 4 (.string h.note)
                have hH := ((((hHeld).setCell (p := ⟨bl, 1, none⟩) (.inl rfl) (.int .u64 (h.gen + 1))).setCell (p := ⟨bl, 2, none⟩) (.inl rfl) (.int .u64 next)).setCell (p := ⟨bl, 3, none⟩) (.inl rfl) (.int .i64 (h.sec : Int))).setCell (p := ⟨bl, 4, none⟩) (.inl rfl) (.string h.note)
                generalize ((((wd).setCell ⟨bl, 1, none⟩ (.int .u64 (h.gen + 1))).setCell ⟨bl, 2, none⟩ (.int .u64 next)).setCell ⟨bl, 3, none⟩ (.int .i64 (h.sec : Int))).setCell ⟨bl, 4, none⟩ (.string h.note) = wz1 at *
                have HZ1 := hide (show Whole wz1 bl 92 [.pointer (some ⟨bd, 0, none⟩), .int .u64 (h.gen + 1), .int .u64 next, .int .i64 (h.sec : Int), .string h.note, .int .i64 (ia : Int), .int .u64 next, .int .i64 used, .bool false] from h1)
                refine hK.out _ _ (hH) (fun hHeld => ?_)
                clear hK K h1 hH y1 x1 y2 x2 y3 x3 y4 x4
                try simp only [Act.put, List.getElem_toArray, List.getElem_cons_zero, List.getElem_cons_succ, List.setIfInBounds_toArray, List.set_cons_zero, List.set_cons_succ]
                refine wpAnyH_take (i := 12) (v := ?vcq10) rfl (by kernel_rfl) (by kernel_rfl) (by kernel_rfl) (fun _ _ _ h => h) (Or.inl ⟨by rfl, ?hcq10⟩) (by assumption) ?rcq10
                case hcq10 => (intro wq hSw; go_simp; (try with_reducible rfl))
                try simp only [Act.put, List.getElem_toArray, List.getElem_cons_zero, List.getElem_cons_succ, List.setIfInBounds_toArray, List.set_cons_zero, List.set_cons_succ]
                refine wpAnyH_take (i := 13) (v := ?vcq11) rfl (by kernel_rfl) (by kernel_rfl) (by kernel_rfl) (fun _ _ _ h => h) (Or.inl ⟨by rfl, ?hcq11⟩) (by assumption) ?rcq11
                case hcq11 => (intro wq hSw; go_simp; (try with_reducible rfl))
                try simp only [Act.put, List.getElem_toArray, List.getElem_cons_zero, List.getElem_cons_succ, List.setIfInBounds_toArray, List.set_cons_zero, List.set_cons_succ]
                refine wpAnyH_ready (rs := [14]) (by kernel_rfl) (by simp) ?_
                refine AllReadyH.cons (o := _) rfl (fun K hK => ?_) ?_
                · skip
                  have y5 : wz1.cell? ⟨bl, 5, none⟩ = some (.int .i64 (ia : Int)) := HZ1.out.cell 5
                  have x5 := HZ1.out.frozen 5
                  go_simp
                  have h1 := (HZ1.out).set_ 5 (.int .i64 ((1 - ia : Nat) : Int))
                  have hH := (hHeld).setCell (p := ⟨bl, 5, none⟩) (.inl rfl) (.int .i64 ((1 - ia : Nat) : Int))
                  generalize (wz1).setCell ⟨bl, 5, none⟩ (.int .i64 ((1 - ia : Nat) : Int)) = wz2 at *
                  have HZ2 := hide (show Whole wz2 bl 92 [.pointer (some ⟨bd, 0, none⟩), .int .u64 (h.gen + 1), .int .u64 next, .int .i64 (h.sec : Int), .string h.note, .int .i64 ((1 - ia : Nat) : Int), .int .u64 next, .int .i64 used, .bool false] from h1)
                  refine hK.out _ _ (hH) (fun hHeld => ?_)
                  clear hK K h1 hH y5 x5
                  try simp only [Act.put, List.getElem_toArray, List.getElem_cons_zero, List.getElem_cons_succ, List.setIfInBounds_toArray, List.set_cons_zero, List.set_cons_succ]
                  refine wpAnyH_take (i := 15) (v := ?vcq12) rfl (by kernel_rfl) (by kernel_rfl) (by kernel_rfl) (fun _ _ _ h => h) (Or.inl ⟨by rfl, ?hcq12⟩) (by assumption) ?rcq12
                  case hcq12 => (intro wq hSw; go_simp; (try with_reducible rfl))
                  try simp only [Act.put, List.getElem_toArray, List.getElem_cons_zero, List.getElem_cons_succ, List.setIfInBounds_toArray, List.set_cons_zero, List.set_cons_succ]
                  refine wpAnyH_take (i := 16) (v := ?vcq13) rfl (by kernel_rfl) (by kernel_rfl) (by kernel_rfl) (fun _ _ _ h => h) (Or.inl ⟨by rfl, ?hcq13⟩) (by assumption) ?rcq13
                  case hcq13 => (intro wq hSw; go_simp; (try with_reducible rfl))
                  try simp only [Act.put, List.getElem_toArray, List.getElem_cons_zero, List.getElem_cons_succ, List.setIfInBounds_toArray, List.set_cons_zero, List.set_cons_succ]
                  refine wpAnyH_ready (rs := [17]) (by kernel_rfl) (by simp) ?_
                  refine AllReadyH.cons (o := _) rfl (fun K hK => ?_) ?_
                  · skip
                    have y7 : wz2.cell? ⟨bl, 7, none⟩ = some (.int .i64 used) := HZ2.out.cell 7
                    have x7 := HZ2.out.frozen 7
                    go_simp
                    have h1 := (HZ2.out).set_ 7 (.int .i64 0)
                    have hH := (hHeld).setCell (p := ⟨bl, 7, none⟩) (.inl rfl) (.int .i64 0)
                    generalize (wz2).setCell ⟨bl, 7, none⟩ (.int .i64 0) = wz3 at *
                    have HZ3 := hide (show Whole wz3 bl 92 [.pointer (some ⟨bd, 0, none⟩), .int .u64 (h.gen + 1), .int .u64 next, .int .i64 (h.sec : Int), .string h.note, .int .i64 ((1 - ia : Nat) : Int), .int .u64 next, .int .i64 0, .bool false] from h1)
                    refine hK.out _ _ (hH) (fun hHeld => ?_)
                    clear hK K h1 hH y7 x7
                    try simp only [Act.put, List.getElem_toArray, List.getElem_cons_zero, List.getElem_cons_succ, List.setIfInBounds_toArray, List.set_cons_zero, List.set_cons_succ]
                    refine wpAnyH_done (by kernel_rfl) ?_ _
                    have hlg : Lg wz3 bl bd (trimHd h next) ((1 - ia : Nat) : Int) next 0 := HZ3.out
                    have HLF := hide (show LD wz3 bl bd n F' (upd c (1 - ia) (trimHd h next).bytes) 0 (trimHd h next) ((1 - ia : Nat) : Int) next 0 from ⟨hlg, HD3.out.kp hHeld (fun k hf hg => hbl3 (by cases hg; exact hf)), hbl3⟩)
                    have HKF := hide (HKW.out.trans hHeld (fun i hi => .inl (.inl hi)))
                    clear hlg hHeld
                    go_wp2_with fail
                    go_ret
                    exact ⟨rfl, F', HLF.out, HKF.out, HFW.out⟩
                  exact AllReadyH.nil
                exact AllReadyH.nil
              exact AllReadyH.nil
            exact AllReadyH.nil
          exact AllReadyH.nil
        exact AllReadyH.nil
      exact AllReadyH.nil
    exact AllReadyH.nil
  exact AllReadyH.nil
set_option maxHeartbeats 1000000 in
theorem trim_any (bl bd n : Nat) (F : Nat → Prop) (c : Nat → List Int) (m : Nat) (h : Hd) (ia : Nat) (next used : Int) (W : World) (hl : LD W bl bd n F c m h ia next used)
    (hm : m + 1 ≤ 100000) (hg : h.good) (hg1 : h.gen < 4294967296) (hi : ia ≤ 1) (hnx : 0 ≤ next ∧ next < 18446744073709551616) (hn : 2 ≤ n) (ht : Tab W) :
    Calls Tryz.prog 105 #[.pointer (some ⟨bl, 0, none⟩)] W (LDRes bl bd n F (upd c (1 - ia) (trimHd h next).bytes) 0 (trimHd h next) ((1 - ia : Nat) : Int) next 0 W) := by
  have ef : ∀ args w, (callFunc 162 args).run Tryz.prog w = .ok (.enter 162 args) w := enters_of Tryz.func162 (by kernel_rfl) rfl
  have hb : Below W.heap.size W (W.alloc (.cells #[.pointer (some ⟨bl, 0, none⟩)] 57)) := (Below.refl _ _).alloc (Nat.le_refl _) _
  have hx := Whole.new W [.pointer (some ⟨bl, 0, none⟩)] 57
  change Whole (W.alloc (.cells #[.pointer (some ⟨bl, 0, none⟩)] 57)) _ _ _ at hx
  have hc0 : (W.alloc (.cells #[.pointer (some ⟨bl, 0, none⟩)] 57)).cell? ⟨W.heap.size, 0, none⟩ = some (.pointer (some ⟨bl, 0, none⟩)) := hx.cell 0
  have HFn := hide ((trimFn_any bl bd n F c m h ia next used W.heap.size _ (hl.below hb) hc0 (fun hf => by have := hl.ds.lt hf; omega) (by have := hl.lt; omega) hm hg hg1 hi hnx hn (ht.below hb)))
  have HDo := hide (does_any _ _ _ (hl.below hb) ef HFn.out)
  have HB := hide hb
  clear hl ht hb hx hg hnx HFn
  go_enter Tryz.func105, Tryz.ntmps105
  go_wp2_with fail
  generalize W.alloc (.cells #[.pointer (some ⟨bl, 0, none⟩)] 57) = w1 at *
  refine HDo.out.mono ?_
  rintro e w2 hr
  have HR := hide (LDRes.from_ HB.out hr)
  obtain ⟨rfl, _⟩ := hr
  go_wp2_with fail
  go_ret
  exact HR.out
theorem tdiv497 (k : Nat) (x : Int) (hx : x = k) : x.tdiv 497 = ((k / 497 : Nat) : Int) := by
  subst hx
  rw [Int.tdiv_eq_ediv_of_nonneg (by omega)]
  omega
def needN (k : Nat) : Nat := max 1 ((k + 496) / 497)
set_option maxHeartbeats 400000 in
theorem need_any (k : Nat) (w : World) (hk : k ≤ 1000000) : Calls Tryz.prog 110 #[.int .i64 k] w fun e w' => e = .returned (.int .i64 (needN k)) ∧ w = w' := by
  have h1 : IntKind.i64.wrap ((k : Int) + 497) = (k : Int) + 497 := IntWalk.i64_in _ (by omega)
  have h2 : IntKind.i64.wrap ((k : Int) + 497 - 1) = ((k + 496 : Nat) : Int) := by rw [IntWalk.i64_in _ (by omega)]; omega
  have h3 := tdiv497 (k + 496) _ rfl
  have h4 : IntKind.i64.wrap (((k + 496) / 497 : Nat) : Int) = (((k + 496) / 497 : Nat) : Int) := IntWalk.i64_in _ (by omega)
  go_enter Tryz.func110, Tryz.ntmps110
  go_wp2
  go_ret
  refine ⟨?_, rfl⟩
  have e : max (1 : Int) (((k : Int) + 496) / 497) = ((needN k : Nat) : Int) := by unfold needN; omega
  rw [e]
  rfl
end Go.Proofs.YtnnfiicmplkakaaGreatDoor
