/- pages.Format where it refuses. Walk of forest.Format. Walks of forest.Format where it refuses, boxes.Format, vault.Format. Walks of fence.in, Fits. Walks of wal.Open where there is no head, of fence.Look, of fence.Is. Walks of fence.Best and of its closure, of ref39.Best. What lies on a disk behind vault.Format; what fence.Look says of it. A text's sheets give the text back; a disk that is formatted, and then opened once. Walks over trees that are empty: deferred ends, must, there, Get, Each; forest.Get, Each. -/
import Derived.Test.YtnnfiicmplkakaaGreatDoorQ10
import Derived.Test.YtnnfiicmplkakaaGreatDoorQ1
import Derived.Defers
import Derived.Recover
namespace Go.Proofs.YtnnfiicmplkakaaGreatDoor
open Go.RowKit Go.Shelf

set_option maxHeartbeats 1000000 in
set_option maxRecDepth 20000 in
theorem bnew_zero (w : World) : Calls Tryz.prog 95 #[.int .i64 0] w fun e w' => e = .returned (.tuple #[mapV 0 zeroWs, .int .i64 2]) ∧ Below w.heap.size w w' := by
  have hw : Whole (w.alloc (.cells (mapC 0 zeroWs).toArray 194)) w.heap.size _ _ := Whole.new w (mapC 0 zeroWs) 194
  have hb : Below w.heap.size w (w.alloc (.cells (mapC 0 zeroWs).toArray 194)) := (Below.refl _ _).alloc (Nat.le_refl _) _
  have HB := hide hb
  have HR := hide hw.range
  clear hw hb
  go_enter Tryz.func95, Tryz.ntmps95
  go_wp2_with fail
  change bodyPost _ _ _ _ _ (w.alloc (.cells (mapC 0 zeroWs).toArray 194))
  refine bodyPost_ret (results_cell_row2 rfl _ _ _ w.heap.size (mapC 0 zeroWs) _ rfl HR.out Tryz.underlying194 rfl (mapInfo rfl)) rfl ⟨rfl, HB.out⟩
def BadFmt (W : World) (e : Ending) (W' : World) : Prop := e = .returned (.int .i64 2) ∧ Below W.heap.size W W'
set_option maxHeartbeats 1000000 in
set_option maxRecDepth 20000 in
theorem pformat_bad (bd L P : Nat) (nt : ByteArray) (W : World) (hL : L ≤ 512) (hP : P ≤ 1024) (hnt : nt.size ≤ 40) (hbad : P < 64 ∨ L < 96) :
    Calls Tryz.prog 64 #[.pointer (some ⟨bd, 0, none⟩), .int .i64 (L : Int), .int .i64 (P : Int), .string nt] W (BadFmt W) := by
  by_cases hP0 : P = 0
  · subst hP0
    have hN := bnew_zero W
    have hI : (Tryz.prog.info? 194).map (·.size) = some (mapC 0 zeroWs).toArray.size := mapInfo rfl
    have hOne := all_oneCell_toArray (mapC_one 0 zeroWs)
    have hZ : (mapC 0 zeroWs).toArray.size = (mapC 0 zeroWs).toArray.size := rfl
    unfold mapV at hN
    obtain ⟨cs, hcs⟩ : ∃ cs, cs = mapC 0 zeroWs := ⟨_, rfl⟩
    conv at hZ => rhs; rw [← hcs]
    rw [← hcs] at hN hI hOne
    have HNew := hide hN
    have HI := hide hI
    have HOne := hide hOne
    have HZ := hide hZ
    clear hN hI hOne hZ hcs
    go_enter Tryz.func64, Tryz.ntmps64
    go_wp2_with fail
    refine HNew.out.mono ?_
    rintro e w1 ⟨rfl, hb⟩
    have HB1 := hide hb
    clear hb
    have hb2 : Below w1.heap.size w1 (w1.alloc (.cells cs.toArray 194)) := (Below.refl _ _).alloc (Nat.le_refl _) _
    go_upto_region 2 with (refine wpList_store_new w1 rfl 194 _ _ rfl _ cs.toArray rfl rfl HI.out HZ.out HOne.out ?_)
    have HB2 := hide (HB1.out.trans (hb2.mono HB1.out.size))
    clear hb2
    generalize w1.alloc (.cells cs.toArray 194) = w2 at *
    go_wp2_with fail
    go_ret
    exact ⟨rfl, HB2.out⟩
  · have HNew := hide (bnew_any P W (by omega) (by omega))
    have HI := hide (show (Tryz.prog.info? 194).map (·.size) = some (mapC P zeroWs).toArray.size from mapInfo rfl)
    have HOne := hide (all_oneCell_toArray (mapC_one P zeroWs))
    have HZ := hide (show (mapC 0 zeroWs).toArray.size = (mapC P zeroWs).toArray.size from rfl)
    unfold mapV at *
    have hP1 : ¬ (P : Int) = 0 := by omega
    go_enter Tryz.func64, Tryz.ntmps64
    go_wp2_with fail
    refine HNew.out.mono ?_
    rintro e w1 ⟨rfl, hb⟩
    have HB1 := hide hb
    clear hb hP1
    have hb2 : Below w1.heap.size w1 (w1.alloc (.cells (mapC P zeroWs).toArray 194)) := (Below.refl _ _).alloc (Nat.le_refl _) _
    go_upto_region 2 with (refine wpList_store_new w1 rfl 194 _ _ rfl _ (mapC P zeroWs).toArray rfl rfl HI.out HZ.out HOne.out ?_)
    have HB2 := hide (HB1.out.trans (hb2.mono HB1.out.size))
    clear hb2
    generalize w1.alloc (.cells (mapC P zeroWs).toArray 194) = w2 at *
    by_cases hP64 : P < 64
    · have d1 : decide ((P : Int) < 64) = true := by simp; omega
      go_wp2_with fail
      go_ret
      exact ⟨rfl, HB2.out⟩
    · have d1 : decide ((P : Int) < 64) = false := by simp; omega
      have d2 : decide ((40 : Int) < (nt.size : Int)) = false := by simp; omega
      have d3 : decide ((L : Int) < 96) = true := by simp; omega
      go_wp2_with fail
      go_ret
      exact ⟨rfl, HB2.out⟩
end Go.Proofs.YtnnfiicmplkakaaGreatDoor
namespace Go.Proofs.YtnnfiicmplkakaaGreatDoor
open Go.RowKit Go.Shelf

def ws0 : List Nat := setB zeroWs 0
def ch2 (P : Nat) : Nat → Option (List Int) := setP (setP (fun _ => none) 0 (nI (bytesTo (setB ws0 1) P))) 1 (zeros 512)
def finT (P : Nat) : ByteArray := strOfNums (pageT (ch2 P) [0, 1])
/-- the sectors behind a forest's Format, on a disk of zeros -/
def finC (c : Nat → List Int) (L P : Nat) (nt : ByteArray) : Nat → List Int := putShs (upd (fmtC c L P nt) 0 (trimHd (freshHd L (noteS P nt)) 1).bytes) L (cutL 1 (finT P))
theorem ws0_eq : ws0 = 1 :: List.replicate 15 0 := by decide
theorem ctz_ws0 : Lib.ctz 64 (18446744073709551615 - 1) = 1 := by decide
theorem ws0_ok {P : Nat} (h0 : 1 ≤ P) (h1 : P ≤ 1024) : MapOk P ws0 := (MapOk.zero h0 h1).setB 0
theorem zero_bit (j : Nat) : bitAt zeroWs j = false := by
  unfold bitAt zeroWs
  rw [List.getD_eq_getElem?_getD, List.getElem?_replicate]
  split <;> simp
theorem ws0_bit (j : Nat) : bitAt ws0 j = decide (0 = j) := by
  unfold ws0
  rw [bitAt_setB 0 j (by decide), zero_bit, Bool.false_or]
theorem ch2_rising (P : Nat) : Rising (ch2 P) [0, 1] := by
  refine ⟨by simp, fun i => ?_⟩
  unfold ch2 setP
  by_cases h1 : i = 1
  · subst h1; simp
  · by_cases h0 : i = 0
    · subst h0; simp
    · simp [h0, h1]
theorem fmt_wf {c : Nat → List Int} {L P : Nat} {nt : ByteArray} (hc : ∀ i, c i = zeros 512) (hn : (noteS P nt).size ≤ 64) (j : Nat) : (fmtC c L P nt j).length = 512 ∧ Byt (fmtC c L P nt j) := by
  unfold fmtC
  show ((upd _ 1 _) j).length = 512 ∧ Byt ((upd _ 1 _) j)
  unfold upd
  split
  · exact ⟨headB_len _ _ _ _ (by show (noteS P nt).size ≤ 489; omega), headB_byt _ _ _ _ (by show (noteS P nt).size < 256; omega)⟩
  · split
    · exact ⟨by rw [mapB, nI_len, bytesTo_len], nI_byt (bytesTo_lt _ _)⟩
    · rw [hc]
      exact ⟨zeros_len, zeros_byt 512⟩
set_option maxHeartbeats 2000000 in
set_option maxRecDepth 20000 in
theorem fformat_any (bd n : Nat) (F : Nat → Prop) (c : Nat → List Int) (m L P : Nat) (nt : ByteArray) (W : World) (h : Ds W bd n F c m) (hm : m ≤ 10) (hL : 96 ≤ L ∧ L ≤ 512) (hP : 64 ≤ P ∧ P ≤ 1024) (hnt : nt.size ≤ 40) (hn : 2 + L + P ≤ n) (hc : ∀ i, c i = zeros 512)
    (ht : Tab W) (htz : TabZ W) (hF : ∀ k, F k → 0 < k ∧ 1 < k) (hW : 0 < W.heap.size ∧ 1 < W.heap.size) :
    Calls Tryz.prog 41 #[.pointer (some ⟨bd, 0, none⟩), .int .i64 (L : Int), .int .i64 (P : Int), .string nt] W (DsRes bd n F (finC c L P nt) 0 W) := by
  have hF1 : ¬ F 0 := fun hf => by have := hF 0 hf; omega
  have hF0 : ¬ F 1 := fun hf => by have := hF 1 hf; omega
  have hns : (noteS P nt).size ≤ 64 := by rw [noteS, strOfNums_size, List.length_append, Pl.be_len, bs_len]; omega
  have HFm := hide (pformat_any bd n F c m L P nt W h hm hL hP hnt hn hc ht hF1)
  have HT := hide ht
  have HTz := hide htz
  have HF := hide hF
  have HCz := hide hc
  clear h ht htz hF hc
  go_enter Tryz.func41, Tryz.ntmps41
  go_wp2_with fail
  refine HFm.out.mono ?_
  rintro e w1 ⟨rfl, F1, g1, g2, g3⟩
  have HD1 := hide g1
  have HK1 := hide g2
  have HS1 := hide g3
  have hgood : (freshHd L (noteS P nt)).good := ⟨by show (0 : Int) ≤ 1 ∧ (1 : Int) < 18446744073709551616; decide, by show (0 : Int) ≤ 1 ∧ (1 : Int) < 18446744073709551616; decide, by show L < 65536; omega, hns⟩
  have hz : ∀ j, j ≠ 1 → j ≠ 2 + L → fmtC c L P nt j = zeros 512 := fun j h1 h2 => by
    show (upd (upd _ _ _) _ _) j = _
    unfold upd
    rw [if_neg h1, if_neg h2]
    exact HCz.out j
  have hF11 : ∀ k, F1 k → 0 < k ∧ 1 < k := fun k hk => (g3 k hk).elim (HF.out k) (fun h => by omega)
  have hopen := popen_any bd n F1 (fmtC c L P nt) 0 P nt ws0 (fun i => if i = 1 then some (freshHd L (noteS P nt)) else none) (freshHd L (noteS P nt)) 1 w1 g1 (by omega) (Nat.le_refl _) (show (1 : Int) < 4294967296 by decide)
    (fun i hi => by
      have : i = 0 ∨ i = 1 := by omega
      rcases this with rfl | rfl
      · show HdIs _ none
        rw [hz 0 (by omega) (by omega)]
        exact hd_zeros
      · show HdIs _ (some _)
        have e : fmtC c L P nt 1 = (freshHd L (noteS P nt)).bytes := by show (upd _ 1 _) 1 = _; unfold upd; rw [if_pos rfl]
        rw [e]
        exact ⟨⟨headB_len _ _ _ _ (by show (noteS P nt).size ≤ 489; omega), headB_byt _ _ _ _ (by show (noteS P nt).size < 256; omega)⟩, hgood, rfl⟩)
    rfl (show 1 ≤ L by omega) (show L < 60000 by omega) hP.1 hP.2 hn
    (fun i hi => by have hi' : i < L := hi; rw [hz (2 + i) (by omega) (by omega)]; exact sh_zeros) (HT.out.kp g2 hF1) hgood rfl hnt (fmt_wf HCz.out hns) (ws0_ok (by omega) hP.2) (fun j hj => by rw [ws0_bit] at hj; have := of_decide_eq_true hj; omega) (by rw [ws0_bit]; rfl)
    (by show (upd (upd _ _ _) _ _) (2 + L) = _; unfold upd; rw [if_neg (by omega), if_pos rfl]; rfl) (fun hf => by have := hF11 0 hf; omega)
  have HOp := hide hopen
  clear hopen g1 g2 g3 hgood hz HFm
  go_wp2_with fail
  refine HOp.out.mono ?_
  rintro e w2 ⟨⟨bs, bl, bd', n', P', note', bk, bt, bc⟩, e1, e2, e3, e4, hb, rfl, F2, hp, hk, hs⟩
  obtain rfl : bd' = bd := e1
  obtain rfl : n' = n := e2
  obtain rfl : P' = P := e3
  obtain rfl : note' = nt := e4
  have hb' : w1.heap.size ≤ bs ∧ w1.heap.size ≤ bk ∧ w1.heap.size ≤ bt ∧ w1.heap.size ≤ bc ∧ w1.heap.size ≤ bl := hb
  have hw1 : W.heap.size ≤ w1.heap.size := HK1.out.size
  have HPS2 := hide hp
  have HK2 := hide hk
  have HS2 := hide hs
  clear hp hk hs HOp
  have hF2 : ∀ k, F2 k → 0 < k ∧ 1 < k := fun k hk => (HS2.out k hk).elim (hF11 k) (fun h => by omega)
  have hT2 : Tab w2 := (HT.out.kp HK1.out hF1).kp HK2.out (fun hf => by have := hF11 0 hf; omega)
  have hZ2 : TabZ w2 := (HTz.out.kp HK1.out hF0).kp HK2.out (fun hf => by have := hF11 1 hf; omega)
  have ho : PgOk ⟨bs, bl, bd', n', P', note', bk, bt, bc⟩ ((openD (fmtC c L P' note') (freshHd L (noteS P' note')) 1).read 0) := ⟨by show 1 ≤ P'; omega, by show P' ≤ 1024; omega, by show 0 + 1 ≤ 100000; omega, by show 0 ≤ 80000; omega, by show L ≤ 60000; omega, by show 2 + L + P' ≤ n'; omega, fun j => by
    show ((upd _ _ _) j).length = 512 ∧ Byt ((upd _ _ _) j)
    unfold upd
    split
    · exact ⟨headB_len _ _ _ _ (by show (noteS P' note').size ≤ 489; omega), headB_byt _ _ _ _ (by show (noteS P' note').size < 256; omega)⟩
    · exact fmt_wf HCz.out hns j⟩
  have hmp : MapPg ⟨bs, bl, bd', n', P', note', bk, bt, bc⟩ ((openD (fmtC c L P' note') (freshHd L (noteS P' note')) 1).read 0) ws0 := ⟨by
    show (upd (upd (upd _ _ _) _ _) _ _) (2 + L + 0) = _
    unfold upd
    rw [if_neg (by show ¬ 2 + L + 0 = 0; omega), if_neg (by omega)]
    exact if_pos rfl, ws0_ok (by show 1 ≤ P'; omega) (by show P' ≤ 1024; omega), fun j hj => by rw [ws0_bit] at hj; have := of_decide_eq_true hj; show j < P'; omega, by rw [ws0_bit]; rfl⟩
  have HAl := hide (alloc_any ⟨bs, bl, bd', n', P', note', bk, bt, bc⟩ F2 ((openD (fmtC c L P' note') (freshHd L (noteS P' note')) 1).read 0) ws0 1 w2 HPS2.out ho ⟨by show 0 < bs ∧ 1 < bs; omega, by show 0 < bk ∧ 1 < bk; omega, by show 0 < bt ∧ 1 < bt; omega, by show 0 < bc ∧ 1 < bc; omega, by show 0 < bl ∧ 1 < bl; omega⟩ hmp (by show 0 + 1 ≤ 90000; omega) (by show 1 < P'; omega) hZ2
    (fun w hw => by
      have := bfind_any P' 1 1 (List.replicate 15 0) w (by rw [← ws0_eq]; exact ws0_ok (by omega) hP.2) (by decide) ctz_ws0 (by omega) hw
      rw [← ws0_eq] at this
      exact this))
  clear ho hmp hZ2 hb
  go_wp2_with fail
  refine HAl.out.mono ?_
  rintro e w3 ⟨rfl, hp3, hk3⟩
  have HPS3 := hide hp3
  have HK3 := hide hk3
  clear hp3 hk3 HAl
  have hgt : ∀ k, StF ⟨bs, bl, bd', n', P', note', bk, bt, bc⟩ k → w1.heap.size ≤ k := fun k hk => by
    rcases hk with e | e | e | e
    · have e' : k = bs := e; omega
    · have e' : k = bk := e; omega
    · have e' : k = bt := e; omega
    · have e' : k = bc := e; omega
  have hT3 : Tab w3 := hT2.kp HK3.out (fun hf => by have := hgt _ hf; omega)
  have HCm := hide (pcommit_any ⟨bs, bl, bd', n', P', note', bk, bt, bc⟩ F2 _ [0, 1] w3 HPS3.out (ch2_rising P') (by decide) (by decide) (by show 0 + 1 + 1 + 1 ≤ 90000; omega) (by show 0 ≤ 80000; omega) (show 1 ≤ L by omega) (show L < 60000 by omega) (show 2 + L ≤ n' by omega) (show (0 : Int) ≤ 0 by decide) (by have e3 : needN (2 * 514) = 3 := (by decide); show (0 : Int) + (needN (2 * 514) : Nat) ≤ (L : Int); rw [e3]; omega) (show (0 : Int) ≤ 1 by decide) (show (1 : Int) < 4611686018427387904 by decide) hT3 (fun hf => by have := hF2 0 hf; omega))
  clear hT3
  go_wp2_with fail
  refine HCm.out.mono ?_
  rintro e w4 ⟨rfl, F3, hp4, hk4, hs4⟩
  have HPS4 := hide hp4
  have HK4 := hide hk4
  have HS4 := hide hs4
  clear hp4 hk4 hs4 HCm
  go_wp2_with fail
  go_ret
  have hw2 : w1.heap.size ≤ w2.heap.size := HK2.out.size
  have hw3 : w2.heap.size ≤ w3.heap.size := HK3.out.size
  have h1 : ∀ k, F1 k → F k ∨ W.heap.size ≤ k := HS1.out
  have h2 : ∀ k, F2 k → F k ∨ W.heap.size ≤ k := fun k hk => (HS2.out k hk).elim (h1 k) (fun h => .inr (by omega))
  have k2 : Kp F W w2 := HK1.out.trans HK2.out h1
  have k3 : Kp F W w3 := k2.trans HK3.out (fun k hk => .inr (by have := hgt k hk; omega))
  have k4 : Kp F W w4 := k3.trans HK4.out (fun k hk => by
    rcases hk with hk | hk | hk
    · exact .inr (by have := hgt k hk; omega)
    · exact .inr (by have hk' : k = bl := hk; omega)
    · exact h2 k hk)
  obtain ⟨_, _, _, hp4, _⟩ := HPS4.out
  refine ⟨rfl, F3, ?_, k4, fun k hk => (HS4.out k hk).elim (h2 k) (fun h => .inr (by omega))⟩
  exact hp4.ld.ds
end Go.Proofs.YtnnfiicmplkakaaGreatDoor
namespace Go.Proofs.YtnnfiicmplkakaaGreatDoor
open Go.RowKit Go.Shelf

theorem fformat_bad (bd L P : Nat) (nt : ByteArray) (W : World) (hL : L ≤ 512) (hP : P ≤ 1024) (hnt : nt.size ≤ 40) (hbad : P < 64 ∨ L < 96) :
    Calls Tryz.prog 41 #[.pointer (some ⟨bd, 0, none⟩), .int .i64 (L : Int), .int .i64 (P : Int), .string nt] W (BadFmt W) := by
  have HF := hide (pformat_bad bd L P nt W hL hP hnt hbad)
  clear hbad hL hP hnt
  go_enter Tryz.func41, Tryz.ntmps41
  go_wp2_with fail
  refine HF.out.mono ?_
  rintro e w1 ⟨rfl, hb⟩
  go_wp2_with fail
  go_ret
  exact ⟨rfl, hb⟩
def BArg (n : Nat) (l p k : Int) : Prop := ¬ (3 ≤ k ∧ k ≤ 200) ∨ l < 0 ∨ 512 < l ∨ p < 0 ∨ 1024 < p ∨ (n : Int) < 2 + l + p + 5 * k
set_option maxHeartbeats 1000000 in
theorem bformat_arg (bd n : Nat) (F : Nat → Prop) (c : Nat → List Int) (m : Nat) (l p k : Int) (W : World) (h : Ds W bd n F c m) (hbad : BArg n l p k) :
    Calls Tryz.prog 25 #[.pointer (some ⟨bd, 0, none⟩), .int .i64 l, .int .i64 p, .int .i64 k] W (BadFmt W) := by
  have HM := hide (many_any k W)
  have HLen := hide (show Calls Tryz.prog 21 #[.pointer (some ⟨bd, 0, none⟩)] W (fun e w' => e = .returned (.int .i64 n) ∧ W = w') from by
    obtain ⟨A0, k0, hln⟩ := h.len
    exact dlen_any bd n k0 A0 _ hln)
  clear h
  unfold BArg at hbad
  by_cases h1 : (3 ≤ k ∧ k ≤ 200)
  · have e1 : decide (3 ≤ k ∧ k ≤ 200) = true := decide_eq_true h1
    rw [e1] at HM
    by_cases c0 : l < 0
    · have d0 : decide (l < 0) = true := decide_eq_true c0
      go_enter Tryz.func25, Tryz.ntmps25
      go_wp2_with fail
      refine HM.out.mono ?_
      rintro e w1 ⟨rfl, rfl⟩
      go_wp2_with fail
      go_ret
      exact ⟨rfl, Below.refl _ _⟩
    · have d0 : decide (l < 0) = false := decide_eq_false c0
      by_cases c1 : 512 < l
      · have d1 : decide (512 < l) = true := decide_eq_true c1
        go_enter Tryz.func25, Tryz.ntmps25
        go_wp2_with fail
        refine HM.out.mono ?_
        rintro e w1 ⟨rfl, rfl⟩
        go_wp2_with fail
        go_ret
        exact ⟨rfl, Below.refl _ _⟩
      · have d1 : decide (512 < l) = false := decide_eq_false c1
        by_cases c2 : p < 0
        · have d2 : decide (p < 0) = true := decide_eq_true c2
          go_enter Tryz.func25, Tryz.ntmps25
          go_wp2_with fail
          refine HM.out.mono ?_
          rintro e w1 ⟨rfl, rfl⟩
          go_wp2_with fail
          go_ret
          exact ⟨rfl, Below.refl _ _⟩
        · have d2 : decide (p < 0) = false := decide_eq_false c2
          by_cases c3 : 1024 < p
          · have d3 : decide (1024 < p) = true := decide_eq_true c3
            go_enter Tryz.func25, Tryz.ntmps25
            go_wp2_with fail
            refine HM.out.mono ?_
            rintro e w1 ⟨rfl, rfl⟩
            go_wp2_with fail
            go_ret
            exact ⟨rfl, Below.refl _ _⟩
          · have d3 : decide (1024 < p) = false := decide_eq_false c3
            have hlast : (n : Int) < 2 + l + p + 5 * k := by omega
            have d5 : decide ((n : Int) < 2 + l + p + 5 * k) = true := decide_eq_true hlast
            have w1 : IntKind.i64.wrap (2 + l) = 2 + l := IntWalk.i64_in _ (by omega)
            have w2 : IntKind.i64.wrap (2 + l + p) = 2 + l + p := IntWalk.i64_in _ (by omega)
            have w3 : IntKind.i64.wrap (5 * k) = 5 * k := IntWalk.i64_in _ (by omega)
            have w4 : IntKind.i64.wrap (2 + l + p + 5 * k) = 2 + l + p + 5 * k := IntWalk.i64_in _ (by omega)
            clear hbad hlast c0 c1 c2 c3 h1 e1
            go_enter Tryz.func25, Tryz.ntmps25
            go_wp2_with fail
            refine HM.out.mono ?_
            rintro e w1 ⟨rfl, rfl⟩
            go_wp2_with fail
            refine HLen.out.mono ?_
            rintro e w1 ⟨rfl, rfl⟩
            go_wp2_with fail
            go_ret
            exact ⟨rfl, Below.refl _ _⟩
  · have e1 : decide (3 ≤ k ∧ k ≤ 200) = false := decide_eq_false h1
    rw [e1] at HM
    go_enter Tryz.func25, Tryz.ntmps25
    go_wp2_with fail
    refine HM.out.mono ?_
    rintro e w1 ⟨rfl, rfl⟩
    go_wp2_with fail
    go_ret
    exact ⟨rfl, Below.refl _ _⟩
/-- what boxes.Format ends with, where its arguments are good -/
def BoxRes (bd n : Nat) (F : Nat → Prop) (c : Nat → List Int) (L P k : Nat) (W : World) (e : Ending) (W' : World) : Prop :=
  (96 ≤ L ∧ 64 ≤ P ∧ DsRes bd n F (finC c L P (numS k)) 0 W e W') ∨ (¬ (96 ≤ L ∧ 64 ≤ P) ∧ BadFmt W e W')
set_option maxHeartbeats 1000000 in
theorem bformat_any (bd n : Nat) (F : Nat → Prop) (c : Nat → List Int) (m L P k : Nat) (W : World) (h : Ds W bd n F c m) (hm : m ≤ 10) (hk : 3 ≤ k ∧ k ≤ 200) (hL : L ≤ 512) (hP : P ≤ 1024) (hn : 2 + L + P + 5 * k ≤ n) (hc : ∀ i, c i = zeros 512)
    (ht : Tab W) (htz : TabZ W) (hF : ∀ k, F k → 0 < k ∧ 1 < k) (hW : 0 < W.heap.size ∧ 1 < W.heap.size) :
    Calls Tryz.prog 25 #[.pointer (some ⟨bd, 0, none⟩), .int .i64 (L : Int), .int .i64 (P : Int), .int .i64 (k : Int)] W (BoxRes bd n F c L P k W) := by
  have hm1 := many_any (k : Int) W
  have e1 : decide (3 ≤ (k : Int) ∧ (k : Int) ≤ 200) = true := decide_eq_true (by omega)
  rw [e1] at hm1
  have HM := hide hm1
  have HLen := hide (show Calls Tryz.prog 21 #[.pointer (some ⟨bd, 0, none⟩)] W (fun e w' => e = .returned (.int .i64 n) ∧ W = w') from by
    obtain ⟨A0, k0, hln⟩ := h.len
    exact dlen_any bd n k0 A0 _ hln)
  have HNum := hide (number_any k W (by omega))
  have hsz : (numS k).size ≤ 40 := by rw [numS, strOfNums_size, Pl.be_len]; omega
  have HD := hide h
  have HFor := fun w (hb : Below W.heap.size W w) => hide (show Calls Tryz.prog 41 #[.pointer (some ⟨bd, 0, none⟩), .int .i64 (L : Int), .int .i64 (P : Int), .string (numS k)] w (BoxRes bd n F c L P k w) from by
    by_cases hg : 96 ≤ L ∧ 64 ≤ P
    · have hnF : ∀ j, F j → ¬ NoF j := fun _ _ h => h
      refine (fformat_any bd n F c m L P (numS k) w (h.below hb) hm ⟨hg.1, hL⟩ ⟨hg.2, hP⟩ hsz (by omega) hc (ht.kp (F := NoF) (Kp.of_below hb) (fun h => h)) (htz.kp (F := NoF) (Kp.of_below hb) (fun h => h)) hF (hi_mono hW hb.size)).mono ?_
      exact fun e w' hr => .inl ⟨hg.1, hg.2, hr⟩
    · refine (fformat_bad bd L P (numS k) w hL hP hsz (by omega)).mono ?_
      exact fun e w' hr => .inr ⟨hg, hr⟩)
  have d0 : decide ((L : Int) < 0) = false := decide_eq_false (by omega)
  have d1 : decide ((512 : Int) < (L : Int)) = false := decide_eq_false (by omega)
  have d2 : decide ((P : Int) < 0) = false := decide_eq_false (by omega)
  have d3 : decide ((1024 : Int) < (P : Int)) = false := decide_eq_false (by omega)
  have d5 : decide ((n : Int) < 2 + (L : Int) + (P : Int) + 5 * (k : Int)) = false := decide_eq_false (by omega)
  have w1 : IntKind.i64.wrap (2 + (L : Int)) = 2 + (L : Int) := IntWalk.i64_in _ (by omega)
  have w2 : IntKind.i64.wrap (2 + (L : Int) + (P : Int)) = 2 + (L : Int) + (P : Int) := IntWalk.i64_in _ (by omega)
  have w3 : IntKind.i64.wrap (5 * (k : Int)) = 5 * (k : Int) := IntWalk.i64_in _ (by omega)
  have w4 : IntKind.i64.wrap (2 + (L : Int) + (P : Int) + 5 * (k : Int)) = 2 + (L : Int) + (P : Int) + 5 * (k : Int) := IntWalk.i64_in _ (by omega)
  have HSame : Hid (∀ w e w', Below W.heap.size W w → BoxRes bd n F c L P k w e w' → BoxRes bd n F c L P k W e w') := hide (fun w e w' hb hr => by
    rcases hr with ⟨h1, h2, hr⟩ | ⟨h1, rfl, hr⟩
    · exact .inl ⟨h1, h2, DsRes.then_ (F1 := F) (Kp.of_below hb) (fun k hk => .inl hk) hr⟩
    · exact .inr ⟨h1, rfl, hb.trans (hr.mono hb.size)⟩)
  clear h hm hk hL hP hn hc ht htz hF hW hm1 e1 hsz
  generalize hR : BoxRes bd n F c L P k W = R at *
  clear hR
  go_enter Tryz.func25, Tryz.ntmps25
  go_wp2_with fail
  refine HM.out.mono ?_
  rintro e w1 ⟨rfl, rfl⟩
  go_wp2_with fail
  refine HLen.out.mono ?_
  rintro e w1 ⟨rfl, rfl⟩
  go_wp2_with fail
  refine HNum.out.mono ?_
  rintro e w1 ⟨rfl, hb⟩
  have HB := hide hb
  have HF1 := HFor w1 hb
  clear hb HFor
  go_wp2_with fail
  refine HF1.out.mono ?_
  intro e w2 hr
  obtain ⟨v, rfl⟩ : ∃ v, e = .returned (.int .i64 v) := by
    rcases hr with ⟨_, _, h, _⟩ | ⟨_, h, _⟩
    · exact ⟨_, h⟩
    · exact ⟨_, h⟩
  have HRes := hide (HSame.out w1 _ w2 HB.out hr)
  clear hr
  go_wp2_with fail
  exact HRes.out
def VRes (bd n : Nat) (F : Nat → Prop) (c : Nat → List Int) (l p k : Int) (W : World) (e : Ending) (W' : World) : Prop :=
  (BArg n l p k ∧ BadFmt W e W') ∨ ∃ L P K : Nat, l = L ∧ p = P ∧ k = K ∧ (3 ≤ K ∧ K ≤ 200) ∧ L ≤ 512 ∧ P ≤ 1024 ∧ 2 + L + P + 5 * K ≤ n ∧ BoxRes bd n F c L P K W e W'
theorem bformat_all (bd n : Nat) (F : Nat → Prop) (c : Nat → List Int) (m : Nat) (l p k : Int) (W : World) (h : Ds W bd n F c m) (hm : m ≤ 10) (hc : ∀ i, c i = zeros 512)
    (ht : Tab W) (htz : TabZ W) (hF : ∀ k, F k → 0 < k ∧ 1 < k) (hW : 0 < W.heap.size ∧ 1 < W.heap.size) :
    Calls Tryz.prog 25 #[.pointer (some ⟨bd, 0, none⟩), .int .i64 l, .int .i64 p, .int .i64 k] W (VRes bd n F c l p k W) := by
  by_cases hb : BArg n l p k
  · exact (bformat_arg bd n F c m l p k W h hb).mono fun e w hr => .inl ⟨hb, hr⟩
  · have hb' : ¬ (¬ (3 ≤ k ∧ k ≤ 200) ∨ l < 0 ∨ 512 < l ∨ p < 0 ∨ 1024 < p ∨ (n : Int) < 2 + l + p + 5 * k) := hb
    obtain ⟨L, rfl⟩ : ∃ L : Nat, l = L := ⟨l.toNat, by omega⟩
    obtain ⟨P, rfl⟩ : ∃ P : Nat, p = P := ⟨p.toNat, by omega⟩
    obtain ⟨K, rfl⟩ : ∃ K : Nat, k = K := ⟨k.toNat, by omega⟩
    exact (bformat_any bd n F c m L P K W h hm (by omega) (by omega) (by omega) (by omega) hc ht htz hF hW).mono fun e w hr => .inr ⟨L, P, K, rfl, rfl, rfl, by omega, by omega, by omega, by omega, hr⟩
theorem VRes.same {bd n : Nat} {F : Nat → Prop} {c : Nat → List Int} {l p k : Int} {W w w' : World} {e : Ending} (hb : Below W.heap.size W w) (h : VRes bd n F c l p k w e w') : VRes bd n F c l p k W e w' := by
  rcases h with ⟨h1, rfl, hr⟩ | ⟨L, P, K, h1, h2, h3, h4, h5, h6, h7, hr⟩
  · exact .inl ⟨h1, rfl, hb.trans (hr.mono hb.size)⟩
  · refine .inr ⟨L, P, K, h1, h2, h3, h4, h5, h6, h7, ?_⟩
    rcases hr with ⟨h1, h2, hr⟩ | ⟨h1, rfl, hr⟩
    · exact .inl ⟨h1, h2, DsRes.then_ (F1 := F) (Kp.of_below hb) (fun k hk => .inl hk) hr⟩
    · exact .inr ⟨h1, rfl, hb.trans (hr.mono hb.size)⟩
theorem VRes.int {bd n : Nat} {F : Nat → Prop} {c : Nat → List Int} {l p k : Int} {w w' : World} {e : Ending} (h : VRes bd n F c l p k w e w') : ∃ v, e = .returned (.int .i64 v) := by
  rcases h with ⟨_, h, _⟩ | ⟨_, _, _, _, _, _, _, _, _, _, ⟨_, _, h, _⟩ | ⟨_, h, _⟩⟩
  · exact ⟨_, h⟩
  · exact ⟨_, h⟩
  · exact ⟨_, h⟩
set_option maxHeartbeats 1000000 in
theorem vformat_any (bd n : Nat) (F : Nat → Prop) (c : Nat → List Int) (m : Nat) (l p k : Int) (W : World) (h : Ds W bd n F c m) (hm : m ≤ 10) (hc : ∀ i, c i = zeros 512)
    (ht : Tab W) (htz : TabZ W) (hF : ∀ k, F k → 0 < k ∧ 1 < k) (hW : 0 < W.heap.size ∧ 1 < W.heap.size) :
    Calls Tryz.prog 14 #[.pointer (some ⟨bd, 0, none⟩), .agg #[.int .i64 l, .int .i64 p, .int .i64 k]] W (VRes bd n F c l p k W) := by
  have HB := fun w (hb : Below W.heap.size W w) => hide (bformat_all bd n F c m l p k w (h.below hb) hm hc (ht.kp (F := NoF) (Kp.of_below hb) (fun h => h)) (htz.kp (F := NoF) (Kp.of_below hb) (fun h => h)) hF (hi_mono hW hb.size))
  have hal : Below W.heap.size W (W.alloc (.cells #[.int .i64 l, .int .i64 p, .int .i64 k] 24)) := (Below.refl _ _).alloc (Nat.le_refl _) _
  have HA := hide hal
  have HB1 := HB _ hal
  clear HB
  have hwl := Whole.new W [.int .i64 l, .int .i64 p, .int .i64 k] 24
  have c0 := hwl.cell 0
  have c1 := hwl.cell 1
  have c2 := hwl.cell 2
  clear hal hwl h hm hc ht htz hF hW
  go_enter Tryz.func14, Tryz.ntmps14
  go_wp2_with fail
  refine HB1.out.mono ?_
  intro e w2 hr
  obtain ⟨v, rfl⟩ := hr.int
  have HR := hide (VRes.same HA.out hr)
  clear hr HB1 HA
  generalize VRes bd n F c l p k W = R at *
  go_wp2_with fail
  exact HR.out
end Go.Proofs.YtnnfiicmplkakaaGreatDoor
namespace Go.Proofs.YtnnfiicmplkakaaGreatDoor
open Go.RowKit Go.Shelf

/-- does a configuration fit -/
def fitB (n l p k : Int) : Bool := decide (1 ≤ n ∧ n ≤ 4096 ∧ 96 ≤ l ∧ l ≤ 512 ∧ 64 ≤ p ∧ p ≤ 1024 ∧ 3 ≤ k ∧ k ≤ 200 ∧ 2 + l + p + 5 * k ≤ n)
theorem in_any (n a b : Int) (w : World) : Calls Tryz.prog 11 #[.int .i64 n, .int .i64 a, .int .i64 b] w fun e w' => e = .returned (.bool (decide (a ≤ n ∧ n ≤ b))) ∧ w = w' := by
  by_cases h0 : a ≤ n
  · have h2 : decide (a ≤ n ∧ n ≤ b) = decide (n ≤ b) := by simp [h0]
    rw [h2]
    generalize hd : decide (n ≤ b) = b
    go_enter Tryz.func11, Tryz.ntmps11
    go_wp2
    go_ret
    exact ⟨rfl, rfl⟩
  · have h2 : decide (a ≤ n ∧ n ≤ b) = false := by simp [h0]
    rw [h2]
    go_enter Tryz.func11, Tryz.ntmps11
    go_wp2
    go_ret
    exact ⟨rfl, rfl⟩
/-- pages of the best configuration -/
def pgs (k : Int) : Int := if 48 + 8 * k < 64 then 64 else if 560 < 48 + 8 * k then 560 else 48 + 8 * k
set_option maxHeartbeats 2000000 in
theorem ffits_any (n l p k : Int) (W : World) : Calls Tryz.prog 5 #[.int .i64 n, .agg #[.int .i64 l, .int .i64 p, .int .i64 k]] W fun e w' => e = .returned (.bool (fitB n l p k)) ∧ Below W.heap.size W w' := by
  have hal : Below W.heap.size W (W.alloc (.cells #[.int .i64 l, .int .i64 p, .int .i64 k] 24)) := (Below.refl _ _).alloc (Nat.le_refl _) _
  have HA := hide hal
  have hwl := Whole.new W [.int .i64 l, .int .i64 p, .int .i64 k] 24
  have c0 : (W.alloc (.cells #[.int .i64 l, .int .i64 p, .int .i64 k] 24)).cell? ⟨W.heap.size, 0, none⟩ = some (.int .i64 l) := hwl.cell 0
  have c1 : (W.alloc (.cells #[.int .i64 l, .int .i64 p, .int .i64 k] 24)).cell? ⟨W.heap.size, 1, none⟩ = some (.int .i64 p) := hwl.cell 1
  have c2 : (W.alloc (.cells #[.int .i64 l, .int .i64 p, .int .i64 k] 24)).cell? ⟨W.heap.size, 2, none⟩ = some (.int .i64 k) := hwl.cell 2
  clear hwl hal
  by_cases hn : 1 ≤ n ∧ n ≤ 4096
  case neg =>
    have iin : decide (1 ≤ n ∧ n ≤ 4096) = false := decide_eq_false hn
    have hf : fitB n l p k = false := decide_eq_false (by omega)
    rw [hf]
    go_enter Tryz.func5, Tryz.ntmps5
    go_wp2_with fail
    refine (in_any n 1 4096 _).mono ?_
    rintro e w1 ⟨rfl, rfl⟩
    rw [iin]
    go_wp2_with fail
    go_ret
    exact ⟨rfl, HA.out⟩
  have iin : decide (1 ≤ n ∧ n ≤ 4096) = true := decide_eq_true hn
  by_cases hl : 96 ≤ l ∧ l ≤ 512
  case neg =>
    have iil : decide (96 ≤ l ∧ l ≤ 512) = false := decide_eq_false hl
    have hf : fitB n l p k = false := decide_eq_false (by omega)
    rw [hf]
    go_enter Tryz.func5, Tryz.ntmps5
    go_wp2_with fail
    refine (in_any n 1 4096 _).mono ?_
    rintro e w1 ⟨rfl, rfl⟩
    rw [iin]
    go_wp2_with fail
    refine (in_any l 96 512 _).mono ?_
    rintro e w1 ⟨rfl, rfl⟩
    rw [iil]
    go_wp2_with fail
    go_ret
    exact ⟨rfl, HA.out⟩
  have iil : decide (96 ≤ l ∧ l ≤ 512) = true := decide_eq_true hl
  by_cases hp : 64 ≤ p ∧ p ≤ 1024
  case neg =>
    have iip : decide (64 ≤ p ∧ p ≤ 1024) = false := decide_eq_false hp
    have hf : fitB n l p k = false := decide_eq_false (by omega)
    rw [hf]
    go_enter Tryz.func5, Tryz.ntmps5
    go_wp2_with fail
    refine (in_any n 1 4096 _).mono ?_
    rintro e w1 ⟨rfl, rfl⟩
    rw [iin]
    go_wp2_with fail
    refine (in_any l 96 512 _).mono ?_
    rintro e w1 ⟨rfl, rfl⟩
    rw [iil]
    go_wp2_with fail
    refine (in_any p 64 1024 _).mono ?_
    rintro e w1 ⟨rfl, rfl⟩
    rw [iip]
    go_wp2_with fail
    go_ret
    exact ⟨rfl, HA.out⟩
  have iip : decide (64 ≤ p ∧ p ≤ 1024) = true := decide_eq_true hp
  by_cases hk : 3 ≤ k ∧ k ≤ 200
  case neg =>
    have iik : decide (3 ≤ k ∧ k ≤ 200) = false := decide_eq_false hk
    have hf : fitB n l p k = false := decide_eq_false (by omega)
    rw [hf]
    go_enter Tryz.func5, Tryz.ntmps5
    go_wp2_with fail
    refine (in_any n 1 4096 _).mono ?_
    rintro e w1 ⟨rfl, rfl⟩
    rw [iin]
    go_wp2_with fail
    refine (in_any l 96 512 _).mono ?_
    rintro e w1 ⟨rfl, rfl⟩
    rw [iil]
    go_wp2_with fail
    refine (in_any p 64 1024 _).mono ?_
    rintro e w1 ⟨rfl, rfl⟩
    rw [iip]
    go_wp2_with fail
    refine (in_any k 3 200 _).mono ?_
    rintro e w1 ⟨rfl, rfl⟩
    rw [iik]
    go_wp2_with fail
    go_ret
    exact ⟨rfl, HA.out⟩
  have iik : decide (3 ≤ k ∧ k ≤ 200) = true := decide_eq_true hk
  have hf : fitB n l p k = decide (2 + l + p + 5 * k ≤ n) := by unfold fitB; rw [decide_eq_decide]; omega
  rw [hf]
  have w0 : IntKind.i64.wrap (2 + l) = 2 + l := IntWalk.i64_in _ (by omega)
  have w1 : IntKind.i64.wrap (2 + l + p) = 2 + l + p := IntWalk.i64_in _ (by omega)
  have w2 : IntKind.i64.wrap (5 * k) = 5 * k := IntWalk.i64_in _ (by omega)
  have w3 : IntKind.i64.wrap (2 + l + p + 5 * k) = 2 + l + p + 5 * k := IntWalk.i64_in _ (by omega)
  clear hn hl hp hk hf
  go_enter Tryz.func5, Tryz.ntmps5
  go_wp2_with fail
  refine (in_any n 1 4096 _).mono ?_
  rintro e w1 ⟨rfl, rfl⟩
  rw [iin]
  go_wp2_with fail
  refine (in_any l 96 512 _).mono ?_
  rintro e w1 ⟨rfl, rfl⟩
  rw [iil]
  go_wp2_with fail
  refine (in_any p 64 1024 _).mono ?_
  rintro e w1 ⟨rfl, rfl⟩
  rw [iip]
  go_wp2_with fail
  refine (in_any k 3 200 _).mono ?_
  rintro e w1 ⟨rfl, rfl⟩
  rw [iik]
  go_wp2_with fail
  go_ret
  exact ⟨rfl, HA.out⟩
end Go.Proofs.YtnnfiicmplkakaaGreatDoor
namespace Go.Proofs.YtnnfiicmplkakaaGreatDoor
open Go.RowKit Go.Shelf

set_option maxHeartbeats 1000000 in
theorem walopen_none (bd n : Nat) (F : Nat → Prop) (c : Nat → List Int) (m : Nat) (xs : Nat → Option Hd) (W : World) (hd : Ds W bd n F c m) (hm : m ≤ 100000) (hn : 2 ≤ n)
    (hx : ∀ i, i < 2 → HdIs (c i) (xs i)) (hb : bestTo xs 2 = none) (ht : Tab W) :
    Calls Tryz.prog 16 #[.pointer (some ⟨bd, 0, none⟩)] W (fun e W' => e = .returned (.tuple #[.pointer none, .slice none 0 0, .int .i64 12]) ∧ Below W.heap.size W W') := by
  have HCo := hide (show Calls Tryz.prog 28 #[.pointer (some ⟨bd, 0, none⟩)] W (fun e W' => e = .returned (.tuple #[hd0.val, .int .i64 (-1), .int .i64 0]) ∧ Below W.heap.size W W') from by
    have := hd.counts hm hn xs hx ht
    unfold CountsRes at this
    rw [hb] at this
    exact this)
  clear hd ht hx hb
  go_enter Tryz.func16, Tryz.ntmps16
  go_wp2_with fail
  refine HCo.out.mono ?_
  rintro e w1 ⟨rfl, hb⟩
  have HB1 := hide hb
  clear hb
  unfold Hd.val hd0
  have HB2 := hide (HB1.out.alloc HB1.out.size (.cells #[.int .u64 0, .int .u64 0, .int .i64 ((0 : Nat) : Int), .string ⟨#[]⟩] 84))
  go_upto_region 6 with fail
  change Code.wp _ _ _ _ (w1.alloc (.cells #[.int .u64 0, .int .u64 0, .int .i64 ((0 : Nat) : Int), .string ⟨#[]⟩] 84))
  generalize w1.alloc (.cells #[.int .u64 0, .int .u64 0, .int .i64 ((0 : Nat) : Int), .string ⟨#[]⟩] 84) = w2 at *
  go_quiet (fail)
  have HB3 := hide (below_drewN HB2.out nq)
  generalize w2.drewN nq = w3 at *
  go_wp2_with fail
  exact bodyPost_ret (v := .tuple #[.pointer none, .slice none 0 0, .int .i64 12]) (by simp [results, Tryz.results16, go_sem]) rfl ⟨rfl, HB3.out⟩
/-- a disk's shape -/
def shC (l p k s q : Int) : List Value := [.int .i64 l, .int .i64 p, .int .i64 k, .int .i64 s, .int .i64 q]
def shpV (l p k s q : Int) : Value := .agg (shC l p k s q).toArray
theorem shInfo : (Tryz.prog.info? 33).map (·.size) = some 5 := by kernel_rfl
set_option maxHeartbeats 1000000 in
theorem look_none (bd n : Nat) (F : Nat → Prop) (c : Nat → List Int) (m : Nat) (xs : Nat → Option Hd) (W : World) (hd : Ds W bd n F c m) (hm : m ≤ 100000) (hn : 2 ≤ n)
    (hx : ∀ i, i < 2 → HdIs (c i) (xs i)) (hb : bestTo xs 2 = none) (ht : Tab W) :
    Calls Tryz.prog 8 #[.pointer (some ⟨bd, 0, none⟩)] W (fun e W' => e = .returned (.tuple #[shpV 0 0 0 0 0, .int .i64 12]) ∧ Below W.heap.size W W') := by
  have hal : Below W.heap.size W (W.alloc (.cells (shC 0 0 0 0 0).toArray 33)) := (Below.refl _ _).alloc (Nat.le_refl _) _
  have HO := hide (walopen_none bd n F c m xs _ (hd.below hal) hm hn hx hb (ht.below hal))
  have HW := hide (Whole.new W (shC 0 0 0 0 0) 33)
  have HA := hide hal
  clear hd hx hb ht hal
  go_enter Tryz.func8, Tryz.ntmps8
  go_wp2_with fail
  change Calls _ _ _ (W.alloc (.cells (shC 0 0 0 0 0).toArray 33)) _
  generalize W.alloc (.cells (shC 0 0 0 0 0).toArray 33) = w1 at *
  refine HO.out.mono ?_
  rintro e w2 ⟨rfl, hb⟩
  have HB2 := hide (HA.out.trans (hb.mono HA.out.size))
  have HW2 := hide (HW.out.below hb HW.out.lt)
  clear hb HA HW HO
  unfold shC at HW2
  have x0 := HW2.out.frozen 0
  have x1 := HW2.out.frozen 1
  have x2 := HW2.out.frozen 2
  have x3 := HW2.out.frozen 3
  have x4 := HW2.out.frozen 4
  have y0 := HW2.out.cell 0
  have y1 := HW2.out.cell 1
  have y2 := HW2.out.cell 2
  have y3 := HW2.out.cell 3
  have y4 := HW2.out.cell 4
  simp only [List.getElem?_cons_zero, List.getElem?_cons_succ] at y0 y1 y2 y3 y4
  go_wp2_with fail
  have HW3 := hide (((((HW2.out.set_ 0 (.int .i64 0)).set_ 1 (.int .i64 0)).set_ 2 (.int .i64 0)).set_ 3 (.int .i64 0)).set_ 4 (.int .i64 0))
  have HB3 := hide (((((HB2.out.setCell (p := ⟨W.heap.size, 0, none⟩) (Nat.le_refl _) (.int .i64 0)).setCell (p := ⟨W.heap.size, 1, none⟩) (Nat.le_refl _) (.int .i64 0)).setCell (p := ⟨W.heap.size, 2, none⟩) (Nat.le_refl _) (.int .i64 0)).setCell (p := ⟨W.heap.size, 3, none⟩) (Nat.le_refl _) (.int .i64 0)).setCell (p := ⟨W.heap.size, 4, none⟩) (Nat.le_refl _) (.int .i64 0))
  generalize ((((w2.setCell ⟨W.heap.size, 0, none⟩ (.int .i64 0)).setCell ⟨W.heap.size, 1, none⟩ (.int .i64 0)).setCell ⟨W.heap.size, 2, none⟩ (.int .i64 0)).setCell ⟨W.heap.size, 3, none⟩ (.int .i64 0)).setCell ⟨W.heap.size, 4, none⟩ (.int .i64 0) = w3 at *
  exact bodyPost_ret (results_cell_row2 Tryz.results8 _ _ _ W.heap.size (shC 0 0 0 0 0) _ rfl HW3.out.range Tryz.underlying33 rfl shInfo) rfl ⟨rfl, HB3.out⟩
/-- what lies in memory while Look goes on -/
structure LkW (W w : World) (bd n : Nat) (F : Nat → Prop) (c : Nat → List Int) (m : Nat) (h : Hd) (ia nx : Int) (bl : Nat) : Prop where
  res : Whole w W.heap.size 33 (shC 0 0 0 0 0)
  lg : Lg w bl bd h ia nx h.sec
  ds : Ds w bd n F c m
  bel : Below W.heap.size W w
theorem LkW.kp {W w w' : World} {bd n : Nat} {F : Nat → Prop} {c : Nat → List Int} {m : Nat} {h : Hd} {ia nx : Int} {bl : Nat} {G : Nat → Prop} (o : LkW W w bd n F c m h ia nx bl) (hk : Kp G w w') (hG : ∀ k, G k → W.heap.size < k ∧ k ≠ bl ∧ ¬ F k) : LkW W w' bd n F c m h ia nx bl :=
  ⟨o.res.kp hk (fun hg => by have := (hG _ hg).1; omega), o.lg.kp hk (fun hg => (hG _ hg).2.1 rfl), o.ds.kp hk (fun k hf hg => (hG k hg).2.2 hf), o.bel.trans (hk.below o.bel.size (fun i hi => by have := (hG i hi).1; omega))⟩
theorem LkW.below {W w w' : World} {bd n : Nat} {F : Nat → Prop} {c : Nat → List Int} {m : Nat} {h : Hd} {ia nx : Int} {bl : Nat} (o : LkW W w bd n F c m h ia nx bl) (hb : Below w.heap.size w w') : LkW W w' bd n F c m h ia nx bl := o.kp (G := NoF) (Kp.of_below hb) (fun _ h => h.elim)
/-- the shape while its spare is reckoned -/
def ShW (w0 w : World) (b : Nat) (l p k q : Int) : Prop := ∃ s, Whole w b 33 (shC l p k s q) ∧ Kp (OnlyF b) w0 w
set_option maxHeartbeats 4000000 in
set_option maxRecDepth 20000 in
theorem look_ok (bd n : Nat) (F : Nat → Prop) (c : Nat → List Int) (m : Nat) (xs : Nat → Option Hd) (h : Hd) (ia : Nat) (W : World) (hd : Ds W bd n F c m) (hm : m ≤ 100000) (hnn : n ≤ 100000)
    (hx : ∀ i, i < 2 → HdIs (c i) (xs i)) (hb : bestTo xs 2 = some (h, ia)) (hs1 : 1 ≤ h.sec) (hs : h.sec < 60000) (ys : Nat → Option Sh) (hy : ∀ i, i < h.sec → ShIs (c (2 + i)) (ys i)) (ht : Tab W) (hgd : h.good)
    (t : Nat → Sh) (k : Nat) (hk : k ≤ 100000) (hfk : h.first + k < 18446744073709551616) (hT : ∀ i : Nat, i < k → fTo ys h.sec h.sec (h.first + i) = some (t i)) (hE : fTo ys h.sec h.sec (h.first + k) = none) (hq : ∀ q s, fTo ys h.sec h.sec q = some s → 0 ≤ q ∧ q + 1 < 18446744073709551616)
    (P Kb : Nat) (hnote : bs h.note = Pl.be 2 (P : Int) ++ Pl.be 2 (Kb : Int)) (hP : 64 ≤ P ∧ P ≤ 1024) (hK : 3 ≤ Kb ∧ Kb ≤ 200) (hn : 2 + h.sec + P + 5 * Kb ≤ n) :
    Calls Tryz.prog 8 #[.pointer (some ⟨bd, 0, none⟩)] W (fun e W' => e = .returned (.tuple #[shpV h.sec P Kb ((n : Int) - 2 - h.sec - P - 5 * Kb) (roll t k).1.length, .int .i64 0]) ∧ Below W.heap.size W W') := by
  have hal : Below W.heap.size W (W.alloc (.cells (shC 0 0 0 0 0).toArray 33)) := (Below.refl _ _).alloc (Nat.le_refl _) _
  have HO := hide (walopen2_any bd n F c m xs h ia _ (hd.below hal) hm hx hb hs1 hs (by omega) ys hy (ht.below hal) hgd t k hk hfk hT hE hq)
  have HW := hide (Whole.new W (shC 0 0 0 0 0) 33)
  have HA := hide hal
  have HD := hide (hd.below hal)
  have HNote := hide hnote
  have hlts := roll_len t k
  have hF0 : ∀ k, F k → k < W.heap.size := fun k hk => hd.lt hk
  have HNl := hide (show h.note.size = 4 from by
    have := congrArg List.length hnote
    rw [bs_len, List.length_append, Pl.be_len, Pl.be_len] at this
    exact this)
  clear hd hx hb ht hal hy hT hE hq hnote
  generalize (roll t k).1 = ts at *
  generalize fTo ys h.sec h.sec = f at *
  go_enter Tryz.func8, Tryz.ntmps8
  go_wp2_with fail
  change Calls _ _ _ (W.alloc (.cells (shC 0 0 0 0 0).toArray 33)) _
  have hsz1 : W.heap.size < (W.alloc (.cells (shC 0 0 0 0 0).toArray 33)).heap.size := by simp
  generalize W.alloc (.cells (shC 0 0 0 0 0).toArray 33) = w1 at *
  refine HO.out.mono ?_
  rintro e w2 ⟨bl, v, nx, rfl, hown, hlg, _, hbl, hb⟩
  obtain ⟨A2, c2, rfl⟩ := owns_slice hown
  have HL2 := hide (show LkW W w2 bd n F c m h ia nx bl from ⟨HW.out.below hb HW.out.lt, hlg, HD.out.below hb, HA.out.trans (hb.mono HA.out.size)⟩)
  have hbl2 := hlg.whole.lt
  clear hown hlg hb HW HA HD HO
  go_wp2_with fail
  refine (lnote_any HL2.out.lg).mono ?_
  rintro e w' ⟨rfl, rfl⟩
  obtain ⟨A5, c5, w5, hrun, hm5, hb5⟩ := conv_bytes w2 h.note
  have HM5 := hide hm5
  have HL5 := hide (HL2.out.below hb5)
  have hs5 := hb5.size
  clear hm5 hb5
  have hlb := bs_len h.note
  have HOf := hide (of_any A5 (bs h.note) c5 w5 HM5.out (by rw [hlb, HNl.out]; decide))
  rw [hlb] at HOf
  clear hlb
  go_wp2_with fail
  refine HOf.out.mono ?_
  rintro e w6 ⟨bo, g, A6, c6, rfl, hop, hb6, hbo, hg⟩
  have HL6 := hide (HL5.out.below hb6)
  obtain ⟨_, _, hgl, _⟩ := hop.mem (by rw [bs_len, HNl.out]; decide)
  have HOp := hide hop
  have hs6 := hb6.size
  clear hop hb6 HOf hrun
  have hGo : ∀ k, OnlyF bo k → W.heap.size < k ∧ k ≠ bl ∧ ¬ F k := fun k hk => by
    have hk' : k = bo := hk
    exact ⟨by omega, by omega, fun hf => by have := hF0 _ hf; omega⟩
  rw [HNote.out] at HOp
  have hunP := un_be2 P (by omega)
  have hunK := un_be2 Kb (by omega)
  have hTk := take_any bo g A6 c6 2 (Pl.be 2 (P : Int) ++ Pl.be 2 (Kb : Int)) w6 HOp.out (.inr (.inl rfl)) (by rw [List.length_append, Pl.be_len]; omega) (Byt.app (Pl.be_byt _ _) (Pl.be_byt _ _))
  have ht2 : (Pl.be 2 (P : Int) ++ Pl.be 2 (Kb : Int)).take 2 = Pl.be 2 (P : Int) := List.take_left' (Pl.be_len _ _)
  have hd2 : (Pl.be 2 (P : Int) ++ Pl.be 2 (Kb : Int)).drop 2 = Pl.be 2 (Kb : Int) := List.drop_left' (Pl.be_len _ _)
  rw [ht2, hd2, hunP] at hTk
  have HTk := hide hTk
  clear hTk ht2 hd2 hunP
  go_wp2_with (first | (go_at_call 20; refine (lsec_any HL6.out.lg).mono ?_; rintro e w' ⟨rfl, rfl⟩))
  refine HTk.out.mono ?_
  rintro e w7 ⟨rfl, A7, c7, hop7, hk7⟩
  have HL7 := hide (HL6.out.kp hk7 hGo)
  have HOp7 := hide hop7
  have hs7 := hk7.size
  clear hop7 hk7 HTk
  have hTk := take_any bo g A7 c7 2 (Pl.be 2 (Kb : Int)) w7 HOp7.out (.inr (.inl rfl)) (by rw [Pl.be_len]; exact Nat.le_refl _) (Pl.be_byt _ _)
  have ht2 : (Pl.be 2 (Kb : Int)).take 2 = Pl.be 2 (Kb : Int) := List.take_of_length_le (by rw [Pl.be_len]; exact Nat.le_refl _)
  have hd2 : (Pl.be 2 (Kb : Int)).drop 2 = [] := List.drop_of_length_le (by rw [Pl.be_len]; exact Nat.le_refl _)
  rw [ht2, hd2, hunK] at hTk
  have HTk := hide hTk
  clear hTk ht2 hd2 hunK
  have hw7 : IntKind.i64.wrap (P : Int) = (P : Int) := IntWalk.i64_in _ (by omega)
  go_wp2_with fail
  refine HTk.out.mono ?_
  rintro e w8 ⟨rfl, A8, c8, hop8, hk8⟩
  have HL8 := hide (HL7.out.kp hk8 hGo)
  have HOp8 := hide hop8
  have hs8 := hk8.size
  clear hop8 hk8 HTk
  have hw8 : IntKind.i64.wrap (Kb : Int) = (Kb : Int) := IntWalk.i64_in _ (by omega)
  have HL9 := hide (HL8.out.below ((Below.refl w8.heap.size w8).alloc (Nat.le_refl _) (.cells (shC h.sec P Kb 0 ts.length).toArray 33)))
  have hk9 : Kp NoF w8 (w8.alloc (.cells (shC h.sec P Kb 0 ts.length).toArray 33)) := Kp.of_below ((Below.refl w8.heap.size w8).alloc (Nat.le_refl _) _)
  have HOp9 := hide (HOp8.out.kp hk9 (fun h => h) (fun h => h))
  have HX9 := hide (Whole.new w8 (shC h.sec P Kb 0 ts.length) 33)
  have hbo8 : bo < w8.heap.size := HOp8.out.box.lt
  clear hk9
  go_upto_region 11 with fail
  change Code.wp _ _ _ _ (w8.alloc (.cells (shC h.sec P Kb 0 ts.length).toArray 33))
  have hF8 : ∀ k, F k → k < w8.heap.size := fun k hk => Nat.lt_of_lt_of_le (hF0 k hk) HL8.out.bel.size
  have hbl8 := HL8.out.lg.whole.lt
  have hsW8 := HL8.out.res.lt
  generalize w8.alloc (.cells (shC h.sec P Kb 0 ts.length).toArray 33) = w9 at *
  generalize w8.heap.size = b9 at *
  have hG9 : ∀ k, OnlyF b9 k → W.heap.size < k ∧ k ≠ bl ∧ ¬ F k := fun k hk => by
    have hk' : k = b9 := hk
    exact ⟨by omega, by omega, fun hf => by have := hF8 _ hf; omega⟩
  have HLen := hide (show ∀ w', Kp (OnlyF b9) w9 w' → Calls Tryz.prog 21 #[.pointer (some ⟨bd, 0, none⟩)] w' (fun e w'' => e = .returned (.int .i64 n) ∧ w' = w'') from fun w' hk => by
    obtain ⟨A0, k0, hln⟩ := (HL9.out.kp hk hG9).ds.len
    exact dlen_any bd n k0 A0 w' hln)
  have v1 : IntKind.i64.wrap ((n : Int) - 2) = (n : Int) - 2 := IntWalk.i64_in _ (by omega)
  have v2 : IntKind.i64.wrap ((n : Int) - 2 - (h.sec : Int)) = (n : Int) - 2 - (h.sec : Int) := IntWalk.i64_in _ (by omega)
  have v3 : IntKind.i64.wrap ((n : Int) - 2 - (h.sec : Int) - (P : Int)) = (n : Int) - 2 - (h.sec : Int) - (P : Int) := IntWalk.i64_in _ (by omega)
  have v4 : IntKind.i64.wrap (5 * (Kb : Int)) = 5 * (Kb : Int) := IntWalk.i64_in _ (by omega)
  have v5 : IntKind.i64.wrap ((n : Int) - 2 - (h.sec : Int) - (P : Int) - 5 * (Kb : Int)) = (n : Int) - 2 - (h.sec : Int) - (P : Int) - 5 * (Kb : Int) := IntWalk.i64_in _ (by omega)
  have hsp0 : ¬ (n : Int) - 2 - (h.sec : Int) - (P : Int) - 5 * (Kb : Int) < 0 := by omega
  refine wp_region_held_drew (S := (fun w' => ShW w9 w' b9 h.sec P Kb ts.length)) (by kernel_rfl) (⟨0, HX9.out, (Kp.refl (OnlyF b9) w9).drew⟩) (fun hHeld => ?_)
  generalize w9.drew = wd at *
  refine wpAnyH_take (i := 0) (v := ?vaq1) rfl (by kernel_rfl) (by kernel_rfl) (by kernel_rfl) (fun _ _ _ h => h) (Or.inl ⟨by rfl, ?haq1⟩) (by assumption) ?raq1
  case haq1 => (intro wq hSw; go_simp; (try with_reducible rfl))
  try simp only [Act.put, List.getElem_toArray, List.getElem_cons_zero, List.setIfInBounds_toArray, List.set_cons_zero, List.set_cons_succ]
  refine wpAnyH_take (i := 3) (v := ?vaq2) rfl (by kernel_rfl) (by kernel_rfl) (by kernel_rfl) (fun _ _ _ h => h) (Or.inl ⟨by rfl, ?haq2⟩) (by assumption) ?raq2
  case haq2 => (intro wq hSw; go_simp; (try with_reducible rfl))
  try simp only [Act.put, List.getElem_toArray, List.getElem_cons_zero, List.getElem_cons_succ, List.setIfInBounds_toArray, List.set_cons_zero, List.set_cons_succ]
  refine wpAnyH_take (i := 4) (v := ?vaq3) rfl (by kernel_rfl) (by kernel_rfl) (by kernel_rfl) (fun _ _ _ h => h) (Or.inl ⟨by rfl, ?haq3⟩) (by assumption) ?raq3
  case haq3 => (intro wq hSw; obtain ⟨s9, hX, _⟩ := hSw; unfold shC at hX; have e0 := hX.cell 0; have e1 := hX.cell 1; have e2 := hX.cell 2; simp only [List.getElem?_cons_zero, List.getElem?_cons_succ] at e0 e1 e2; go_simp; (try with_reducible rfl))
  try simp only [Act.put, List.getElem_toArray, List.getElem_cons_zero, List.getElem_cons_succ, List.setIfInBounds_toArray, List.set_cons_zero, List.set_cons_succ]
  refine wpAnyH_take (i := 6) (v := ?vaq4) rfl (by kernel_rfl) (by kernel_rfl) (by kernel_rfl) (fun _ _ _ h => h) (Or.inl ⟨by rfl, ?haq4⟩) (by assumption) ?raq4
  case haq4 => (intro wq hSw; go_simp; (try with_reducible rfl))
  try simp only [Act.put, List.getElem_toArray, List.getElem_cons_zero, List.getElem_cons_succ, List.setIfInBounds_toArray, List.set_cons_zero, List.set_cons_succ]
  refine wpAnyH_take (i := 7) (v := ?vaq5) rfl (by kernel_rfl) (by kernel_rfl) (by kernel_rfl) (fun _ _ _ h => h) (Or.inl ⟨by rfl, ?haq5⟩) (by assumption) ?raq5
  case haq5 => (intro wq hSw; obtain ⟨s9, hX, _⟩ := hSw; unfold shC at hX; have e0 := hX.cell 0; have e1 := hX.cell 1; have e2 := hX.cell 2; simp only [List.getElem?_cons_zero, List.getElem?_cons_succ] at e0 e1 e2; go_simp; (try with_reducible rfl))
  try simp only [Act.put, List.getElem_toArray, List.getElem_cons_zero, List.getElem_cons_succ, List.setIfInBounds_toArray, List.set_cons_zero, List.set_cons_succ]
  refine wpAnyH_take (i := 9) (v := ?vaq6) rfl (by kernel_rfl) (by kernel_rfl) (by kernel_rfl) (fun _ _ _ h => h) (Or.inl ⟨by rfl, ?haq6⟩) (by assumption) ?raq6
  case haq6 => (intro wq hSw; go_simp; (try with_reducible rfl))
  try simp only [Act.put, List.getElem_toArray, List.getElem_cons_zero, List.getElem_cons_succ, List.setIfInBounds_toArray, List.set_cons_zero, List.set_cons_succ]
  refine wpAnyH_take (i := 10) (v := ?vaq7) rfl (by kernel_rfl) (by kernel_rfl) (by kernel_rfl) (fun _ _ _ h => h) (Or.inl ⟨by rfl, ?haq7⟩) (by assumption) ?raq7
  case haq7 => (intro wq hSw; obtain ⟨s9, hX, _⟩ := hSw; unfold shC at hX; have e0 := hX.cell 0; have e1 := hX.cell 1; have e2 := hX.cell 2; simp only [List.getElem?_cons_zero, List.getElem?_cons_succ] at e0 e1 e2; go_simp; (try with_reducible rfl))
  try simp only [Act.put, List.getElem_toArray, List.getElem_cons_zero, List.getElem_cons_succ, List.setIfInBounds_toArray, List.set_cons_zero, List.set_cons_succ]
  refine wpAnyH_take (i := 11) (v := ?vaq8) rfl (by kernel_rfl) (by kernel_rfl) (by kernel_rfl) (fun _ _ _ h => h) (Or.inl ⟨by rfl, ?haq8⟩) (by assumption) ?raq8
  case haq8 => (intro wq hSw; go_simp; (try with_reducible rfl))
  try simp only [Act.put, List.getElem_toArray, List.getElem_cons_zero, List.getElem_cons_succ, List.setIfInBounds_toArray, List.set_cons_zero, List.set_cons_succ]
  refine wpAnyH_ready (rs := [1]) (by kernel_rfl) (by simp) ?_
  refine AllReadyH.cons (o := _) rfl (fun K hK => ?_) ?_
  · skip
    go_simp
    refine (HLen.out wd hHeld.choose_spec.2).mono ?_
    rintro e w' ⟨rfl, rfl⟩
    refine hK.out _ _ (hHeld) (fun hHeld => ?_)
    clear hK K 
    try simp only [Act.put, List.getElem_toArray, List.getElem_cons_zero, List.getElem_cons_succ, List.setIfInBounds_toArray, List.set_cons_zero, List.set_cons_succ]
    refine wpAnyH_take (i := 2) (v := ?vaq9) rfl (by kernel_rfl) (by kernel_rfl) (by kernel_rfl) (fun _ _ _ h => h) (Or.inl ⟨by rfl, ?haq9⟩) (by assumption) ?raq9
    case haq9 => (intro wq hSw; go_simp; (try with_reducible rfl))
    try simp only [Act.put, List.getElem_toArray, List.getElem_cons_zero, List.getElem_cons_succ, List.setIfInBounds_toArray, List.set_cons_zero, List.set_cons_succ]
    refine wpAnyH_take (i := 5) (v := ?vaq10) rfl (by kernel_rfl) (by kernel_rfl) (by kernel_rfl) (fun _ _ _ h => h) (Or.inl ⟨by rfl, ?haq10⟩) (by assumption) ?raq10
    case haq10 => (intro wq hSw; go_simp; (try with_reducible rfl))
    try simp only [Act.put, List.getElem_toArray, List.getElem_cons_zero, List.getElem_cons_succ, List.setIfInBounds_toArray, List.set_cons_zero, List.set_cons_succ]
    refine wpAnyH_take (i := 8) (v := ?vaq11) rfl (by kernel_rfl) (by kernel_rfl) (by kernel_rfl) (fun _ _ _ h => h) (Or.inl ⟨by rfl, ?haq11⟩) (by assumption) ?raq11
    case haq11 => (intro wq hSw; go_simp; (try with_reducible rfl))
    try simp only [Act.put, List.getElem_toArray, List.getElem_cons_zero, List.getElem_cons_succ, List.setIfInBounds_toArray, List.set_cons_zero, List.set_cons_succ]
    refine wpAnyH_take (i := 12) (v := ?vaq12) rfl (by kernel_rfl) (by kernel_rfl) (by kernel_rfl) (fun _ _ _ h => h) (Or.inl ⟨by rfl, ?haq12⟩) (by assumption) ?raq12
    case haq12 => (intro wq hSw; go_simp; (try with_reducible rfl))
    try simp only [Act.put, List.getElem_toArray, List.getElem_cons_zero, List.getElem_cons_succ, List.setIfInBounds_toArray, List.set_cons_zero, List.set_cons_succ]
    refine wpAnyH_take (i := 13) (v := ?vaq13) rfl (by kernel_rfl) (by kernel_rfl) (by kernel_rfl) (fun _ _ _ h => h) (Or.inl ⟨by rfl, ?haq13⟩) (by assumption) ?raq13
    case haq13 => (intro wq hSw; go_simp; (try with_reducible rfl))
    try simp only [Act.put, List.getElem_toArray, List.getElem_cons_zero, List.getElem_cons_succ, List.setIfInBounds_toArray, List.set_cons_zero, List.set_cons_succ]
    refine wpAnyH_ready (rs := [14]) (by kernel_rfl) (by simp) ?_
    refine AllReadyH.cons (o := _) rfl (fun K hK => ?_) ?_
    · skip
      obtain ⟨s9, hX9, hK9⟩ := id hHeld
      unfold shC at hX9
      have y3 := hX9.cell 3
      have x3 := hX9.frozen 3
      simp only [List.getElem?_cons_zero, List.getElem?_cons_succ] at y3
      go_simp
      have hH : ShW w9 (wd.setCell ⟨b9, 3, none⟩ (.int .i64 ((n : Int) - 2 - (h.sec : Int) - (P : Int) - 5 * (Kb : Int)))) b9 h.sec P Kb ts.length := ⟨_, hX9.set_ 3 _, hK9.setCell (p := ⟨b9, 3, none⟩) (.inl rfl) _⟩
      have HX := hide (hX9.set_ 3 (.int .i64 ((n : Int) - 2 - (h.sec : Int) - (P : Int) - 5 * (Kb : Int))))
      have HK := hide (hK9.setCell (p := ⟨b9, 3, none⟩) (.inl rfl) (.int .i64 ((n : Int) - 2 - (h.sec : Int) - (P : Int) - 5 * (Kb : Int))))
      clear hX9 hK9 y3 x3
      generalize wd.setCell ⟨b9, 3, none⟩ (.int .i64 ((n : Int) - 2 - (h.sec : Int) - (P : Int) - 5 * (Kb : Int))) = wf at *
      refine hK.out _ _ (hH) (fun hHeld => ?_)
      clear hK K hH
      try simp only [Act.put, List.getElem_toArray, List.getElem_cons_zero, List.getElem_cons_succ, List.setIfInBounds_toArray, List.set_cons_zero, List.set_cons_succ]
      refine wpAnyH_done (by kernel_rfl) ?_ _
      have HLf := hide (HL9.out.kp HK.out hG9)
      have HOpf := hide (HOp9.out.kp HK.out (fun e => by have e : bo = b9 := e; omega) (fun e => by have e : g = b9 := e; omega))
      clear hHeld HLen
      have HEnd := hide (show Calls Tryz.prog 22 #[.pointer (some ⟨bo, 0, none⟩)] wf (fun e w' => e = .returned (.int .i64 0) ∧ wf = w') from end_any bo g A8 c8 [] 0 wf HOpf.out)
      have HI1 := hide (in_any (P : Int) 64 1024 wf)
      rw [decide_eq_true (show (64 : Int) ≤ (P : Int) ∧ (P : Int) ≤ 1024 from by omega)] at HI1
      have HI2 := hide (in_any (Kb : Int) 3 200 wf)
      rw [decide_eq_true (show (3 : Int) ≤ (Kb : Int) ∧ (Kb : Int) ≤ 200 from by omega)] at HI2
      have z0 := HX.out.cell 0
      have z1 := HX.out.cell 1
      have z2 := HX.out.cell 2
      have z3 := HX.out.cell 3
      have z4 := HX.out.cell 4
      simp only [List.getElem?_cons_zero, List.getElem?_cons_succ, List.set_cons_succ, List.set_cons_zero] at z0 z1 z2 z3 z4
      have hRs := HLf.out.res
      unfold shC at hRs
      have HRs := hide hRs
      have y0 := hRs.cell 0
      have y1 := hRs.cell 1
      have y2 := hRs.cell 2
      have y3 := hRs.cell 3
      have y4 := hRs.cell 4
      have x0 := hRs.frozen 0
      have x1 := hRs.frozen 1
      have x2 := hRs.frozen 2
      have x3 := hRs.frozen 3
      have x4 := hRs.frozen 4
      simp only [List.getElem?_cons_zero, List.getElem?_cons_succ] at y0 y1 y2 y3 y4
      clear hRs
      have HBf := hide HLf.out.bel
      generalize hsp : (n : Int) - 2 - (h.sec : Int) - (P : Int) - 5 * (Kb : Int) = sp at *
      go_wp2_with (first | (go_at_call 22; refine HEnd.out.mono ?_; rintro e w' ⟨rfl, rfl⟩))
      refine HI1.out.mono ?_
      rintro e w' ⟨rfl, rfl⟩
      go_wp2_with fail
      refine HI2.out.mono ?_
      rintro e w' ⟨rfl, rfl⟩
      go_wp2_with fail
      have HW3 := hide (((((HRs.out.set_ 0 (.int .i64 (h.sec : Int))).set_ 1 (.int .i64 (P : Int))).set_ 2 (.int .i64 (Kb : Int))).set_ 3 (.int .i64 sp)).set_ 4 (.int .i64 (ts.length : Int)))
      have HB3 := hide (((((HBf.out.setCell (p := ⟨W.heap.size, 0, none⟩) (Nat.le_refl _) (.int .i64 (h.sec : Int))).setCell (p := ⟨W.heap.size, 1, none⟩) (Nat.le_refl _) (.int .i64 (P : Int))).setCell (p := ⟨W.heap.size, 2, none⟩) (Nat.le_refl _) (.int .i64 (Kb : Int))).setCell (p := ⟨W.heap.size, 3, none⟩) (Nat.le_refl _) (.int .i64 sp)).setCell (p := ⟨W.heap.size, 4, none⟩) (Nat.le_refl _) (.int .i64 (ts.length : Int)))
      generalize ((((wf.setCell ⟨W.heap.size, 0, none⟩ (.int .i64 (h.sec : Int))).setCell ⟨W.heap.size, 1, none⟩ (.int .i64 (P : Int))).setCell ⟨W.heap.size, 2, none⟩ (.int .i64 (Kb : Int))).setCell ⟨W.heap.size, 3, none⟩ (.int .i64 sp)).setCell ⟨W.heap.size, 4, none⟩ (.int .i64 (ts.length : Int)) = w3 at *
      exact bodyPost_ret (results_cell_row2 Tryz.results8 _ _ _ W.heap.size (shC h.sec P Kb sp ts.length) _ rfl HW3.out.range Tryz.underlying33 rfl shInfo) rfl ⟨by rw [← hsp]; rfl, HB3.out⟩
    exact AllReadyH.nil
  exact AllReadyH.nil
end Go.Proofs.YtnnfiicmplkakaaGreatDoor
namespace Go.Proofs.YtnnfiicmplkakaaGreatDoor
open Go.RowKit Go.Shelf

/-- the best, of so many boxes at most -/
def down (n : Int) : Nat → Nat
  | 0 => 0
  | k + 1 => if fitB n 96 (pgs ((k + 1 : Nat) : Int)) ((k + 1 : Nat) : Int) = true then k + 1 else down n k
theorem down_le (n : Int) (k : Nat) : down n k ≤ k := by
  induction k with
  | zero => exact Nat.le_refl _
  | succ k ih => unfold down; split <;> omega
theorem fitB_few (n l p k : Int) (h : k < 3) : fitB n l p k = false := decide_eq_false (by omega)
theorem down_succ (n : Int) (k : Nat) : down n (k + 1) = if fitB n 96 (pgs ((k + 1 : Nat) : Int)) ((k + 1 : Nat) : Int) = true then k + 1 else down n k := rfl
theorem down_two (n : Int) : down n 2 = 0 := by
  rw [down_succ, if_neg (by rw [fitB_few _ _ _ _ (by decide)]; decide), down_succ, if_neg (by rw [fitB_few _ _ _ _ (by decide)]; decide)]
  rfl
theorem pgs_minmax (k : Int) : pgs k = min 560 (max 64 (48 + 8 * k)) := by unfold pgs; split <;> omega
theorem pgs_bound (k : Int) : 64 ≤ pgs k ∧ pgs k ≤ 560 := by rw [pgs_minmax]; omega
def cfgV (l p k : Int) : Value := .agg #[.int .i64 l, .int .i64 p, .int .i64 k]
theorem cfgInfo : (Tryz.prog.info? 24).map (·.size) = some 3 := by kernel_rfl
set_option maxHeartbeats 1000000 in
theorem of_any' (k : Int) (W : World) (h0 : 0 ≤ k) (h1 : k ≤ 200) : Calls Tryz.prog 10 #[.int .i64 k] W fun e w' => e = .returned (cfgV 96 (pgs k) k) ∧ Below W.heap.size W w' := by
  have w1 : IntKind.i64.wrap (8 * k) = 8 * k := IntWalk.i64_in _ (by omega)
  have w2 : IntKind.i64.wrap (48 + 8 * k) = 48 + 8 * k := IntWalk.i64_in _ (by omega)
  have hp := hide (pgs_minmax k)
  unfold cfgV
  generalize pgs k = pg at *
  go_enter Tryz.func10, Tryz.ntmps10
  go_wp2_with fail
  rw [← hp.out]
  have hal : Below W.heap.size W (W.alloc (.cells #[.int .i64 96, .int .i64 pg, .int .i64 k] 24)) := (Below.refl _ _).alloc (Nat.le_refl _) _
  exact bodyPost_ret (results_cell_row Tryz.results10 _ _ W.heap.size 24 #[.int .i64 96, .int .i64 pg, .int .i64 k] (0, 0) _ rfl (heap_alloc_new _ _) Tryz.underlying24 rfl cfgInfo) rfl ⟨rfl, hal⟩
/-- what Best says -/
def bestV (n : Int) : Value := if down n 200 = 0 then .tuple #[cfgV 0 0 0, .bool false] else .tuple #[cfgV 96 (pgs (down n 200 : Nat)) (down n 200 : Nat), .bool true]
/-- while the best is sought -/
structure BsW (W w : World) : Prop where
  bel : Below W.heap.size W w
  box : Whole w W.heap.size 24 [.int .i64 0, .int .i64 0, .int .i64 0]
theorem BsW.below {W w w' : World} (h : BsW W w) (hb : Below w.heap.size w w') : BsW W w' := ⟨h.bel.trans (hb.mono h.bel.size), h.box.below hb h.box.lt⟩
set_option maxHeartbeats 2000000 in
set_option maxRecDepth 20000 in
theorem fbest_any (n : Int) (W : World) : Calls Tryz.prog 4 #[.int .i64 n] W fun e w' => e = .returned (bestV n) ∧ Below W.heap.size W w' := by
  have HD := hide (show ∀ k, k = 200 → down n k = down n 200 from fun k hk => by rw [hk])
  have HV := hide (show bestV n = if down n 200 = 0 then .tuple #[cfgV 0 0 0, .bool false] else .tuple #[cfgV 96 (pgs (down n 200 : Nat)) (down n 200 : Nat), .bool true] from rfl)
  generalize bestV n = V at *
  generalize down n 200 = D at *
  have HB0 := hide (show BsW W (W.alloc (.cells [.int .i64 0, .int .i64 0, .int .i64 0].toArray 24)) from ⟨(Below.refl _ _).alloc (Nat.le_refl _) _, Whole.new W _ _⟩)
  go_enter Tryz.func4, Tryz.ntmps4
  go_upto_region 3 with fail
  change Code.wp _ _ _ _ (W.alloc (.cells [.int .i64 0, .int .i64 0, .int .i64 0].toArray 24))
  generalize W.alloc (.cells [.int .i64 0, .int .i64 0, .int .i64 0].toArray 24) = w0 at *
  go_loopw [5] (fun x wr => ∃ k : Nat, 2 ≤ k ∧ k ≤ 200 ∧ x = .int .i64 (k : Int) ∧ down n k = D ∧ BsW W wr) (fun x _ => (Go.RowKit.intOf x).toNat)
  case atStart => exact ⟨200, by decide, by decide, rfl, HD.out 200 rfl, HB0.out⟩
  case round =>
    obtain ⟨k, h2, hk, rfl, hD, hbs⟩ := hrel
    have HBs := hide hbs
    clear hbs HD HB0
    by_cases hlt : 3 ≤ k
    · have d1 : decide (3 ≤ (k : Int)) = true := decide_eq_true (by omega)
      have w1 : IntKind.i64.wrap ((k : Int) - 1) = (k : Int) - 1 := IntWalk.i64_in _ (by omega)
      obtain ⟨j, rfl⟩ : ∃ j, k = j + 1 := ⟨k - 1, by omega⟩
      have HE := hide (down_succ n j)
      rw [hD] at HE
      have HOf := fun w => hide (of_any' ((j + 1 : Nat) : Int) w (by omega) (by omega))
      have HF := fun w => hide (ffits_any n 96 (pgs ((j + 1 : Nat) : Int)) ((j + 1 : Nat) : Int) w)
      have hc : Hid (∃ kk : Int, kk = ((j + 1 : Nat) : Int)) := hide ⟨_, rfl⟩
      obtain ⟨kk, hkk⟩ := hc.out
      rw [← hkk] at HOf HF HE d1 w1 ⊢
      have HKk := hide hkk
      clear hkk hc
      unfold cfgV at *
      cases hf : fitB n 96 (pgs kk) kk with
      | true =>
        rw [hf] at HF
        go_wp2_with fail
        refine (HOf _).out.mono ?_
        rintro e w2 ⟨rfl, hb⟩
        have HB2 := hide (HBs.out.below hb)
        clear hb
        go_wp2_with fail
        refine (HF _).out.mono ?_
        rintro e w3 ⟨rfl, hb⟩
        have HB3 := hide (HB2.out.below hb)
        clear hb
        go_wp2_with fail
        refine (HOf _).out.mono ?_
        rintro e w4 ⟨rfl, hb⟩
        have HB4 := hide (HB3.out.below hb)
        clear hb
        have HVal := hide (show V = .tuple #[.agg #[.int .i64 96, .int .i64 (pgs kk), .int .i64 kk], .bool true] from by
          have e := HE.out
          rw [hf, if_pos rfl] at e
          rw [HV.out, e, if_neg (by omega), ← HKk.out])
        generalize pgs kk = pg at *
        have x0 := HB4.out.box.frozen 0
        have x1 := HB4.out.box.frozen 1
        have x2 := HB4.out.box.frozen 2
        have y0 := HB4.out.box.cell 0
        have y1 := HB4.out.box.cell 1
        have y2 := HB4.out.box.cell 2
        simp only [List.getElem?_cons_zero, List.getElem?_cons_succ] at y0 y1 y2
        go_wp2_with fail
        have HW9 := hide ((((HB4.out.box).set_ 0 (.int .i64 96)).set_ 1 (.int .i64 pg)).set_ 2 (.int .i64 kk))
        have HB9 := hide ((((HB4.out.bel).setCell (p := ⟨W.heap.size, 0, none⟩) (Nat.le_refl _) (.int .i64 96)).setCell (p := ⟨W.heap.size, 1, none⟩) (Nat.le_refl _) (.int .i64 pg)).setCell (p := ⟨W.heap.size, 2, none⟩) (Nat.le_refl _) (.int .i64 kk))
        generalize (((w4).setCell ⟨W.heap.size, 0, none⟩ (.int .i64 96)).setCell ⟨W.heap.size, 1, none⟩ (.int .i64 pg)).setCell ⟨W.heap.size, 2, none⟩ (.int .i64 kk) = w9 at *
        exact bodyPost_ret (results_cell_row2 Tryz.results4 _ _ _ W.heap.size [.int .i64 96, .int .i64 pg, .int .i64 kk] _ rfl HW9.out.range Tryz.underlying24 rfl cfgInfo) rfl ⟨by rw [HVal.out]; rfl, HB9.out⟩
      | false =>
        rw [hf] at HF
        go_wp2_with fail
        refine (HOf _).out.mono ?_
        rintro e w2 ⟨rfl, hb⟩
        have HB2 := hide (HBs.out.below hb)
        clear hb
        go_wp2_with fail
        refine (HF _).out.mono ?_
        rintro e w3 ⟨rfl, hb⟩
        have HB3 := hide (HB2.out.below hb)
        clear hb
        go_wp2_with fail
        have e := HE.out
        rw [hf, if_neg (by decide)] at e
        have hk' := HKk.out
        refine ⟨⟨j, by omega, by omega, by congr 1; omega, e.symm, HB3.out⟩, ?_⟩
        show (kk - 1).toNat < kk.toNat
        omega
    · have d1 : decide (3 ≤ (k : Int)) = false := decide_eq_false (by omega)
      obtain rfl : k = 2 := by omega
      rw [down_two] at hD
      subst hD
      go_upto_region 7 with fail
      have HVal := hide (show V = .tuple #[.agg #[.int .i64 0, .int .i64 0, .int .i64 0], .bool false] from by
        rw [HV.out, if_pos rfl]
        rfl)
      have x0 := HBs.out.box.frozen 0
      have x1 := HBs.out.box.frozen 1
      have x2 := HBs.out.box.frozen 2
      have y0 := HBs.out.box.cell 0
      have y1 := HBs.out.box.cell 1
      have y2 := HBs.out.box.cell 2
      simp only [List.getElem?_cons_zero, List.getElem?_cons_succ] at y0 y1 y2
      go_wp2_with fail
      have HW9 := hide ((((HBs.out.box).set_ 0 (.int .i64 0)).set_ 1 (.int .i64 0)).set_ 2 (.int .i64 0))
      have HB9 := hide ((((HBs.out.bel).setCell (p := ⟨W.heap.size, 0, none⟩) (Nat.le_refl _) (.int .i64 0)).setCell (p := ⟨W.heap.size, 1, none⟩) (Nat.le_refl _) (.int .i64 0)).setCell (p := ⟨W.heap.size, 2, none⟩) (Nat.le_refl _) (.int .i64 0))
      generalize (((wr).setCell ⟨W.heap.size, 0, none⟩ (.int .i64 0)).setCell ⟨W.heap.size, 1, none⟩ (.int .i64 0)).setCell ⟨W.heap.size, 2, none⟩ (.int .i64 0) = w9 at *
      exact bodyPost_ret (results_cell_row2 Tryz.results4 _ _ _ W.heap.size [.int .i64 0, .int .i64 0, .int .i64 0] _ rfl HW9.out.range Tryz.underlying24 rfl cfgInfo) rfl ⟨by rw [HVal.out]; rfl, HB9.out⟩
end Go.Proofs.YtnnfiicmplkakaaGreatDoor
namespace Go.Proofs.YtnnfiicmplkakaaGreatDoor
open Go.RowKit Go.Shelf

theorem finT_size (P : Nat) : (finT P).size = 1028 := by
  unfold finT
  rw [strOfNums_size]
  exact pageT_len (ks := [0, 1]) (fun k hk => by
    have h : k = 0 ∨ k = 1 := by simpa using hk
    rcases h with rfl | rfl
    · exact ⟨_, rfl, by rw [nI_len, bytesTo_len]⟩
    · exact ⟨_, rfl, zeros_len⟩)
def finS (P k : Nat) : Sh := cutS 1 (finT P) k
theorem finQ (P : Nat) : cutQ (finT P) = 2 := by unfold cutQ; rw [finT_size]
theorem finS_good (P k : Nat) (hk : k ≤ 2) : (finS P k).good ∧ (finS P k).seq = 1 + (k : Int) := cutS_good 1 (finT P) k (by decide) (by omega) (by rw [finQ]; exact hk)
theorem fin_cut (P : Nat) : cutL 1 (finT P) = [finS P 0, finS P 1, finS P 2] := by
  unfold cutL
  rw [finQ]
  rfl
theorem fin_place (k L : Nat) (hk : k ≤ 2) (hL : 96 ≤ L) : placeN (1 + (k : Int)) L = 3 + k := by
  unfold placeN
  rw [Int.emod_eq_of_lt (by omega) (by omega)]
  omega
def hdA (L P : Nat) (nt : ByteArray) : Hd := freshHd L (noteS P nt)
def hdB (L P : Nat) (nt : ByteArray) : Hd := trimHd (hdA L P nt) 1
theorem fin_eq (c : Nat → List Int) (L P : Nat) (nt : ByteArray) (hL : 96 ≤ L) : finC c L P nt = upd (upd (upd (upd (fmtC c L P nt) 0 (hdB L P nt).bytes) 3 (finS P 0).bytes) 4 (finS P 1).bytes) 5 (finS P 2).bytes := by
  unfold finC
  rw [fin_cut]
  unfold putShs
  show upd (upd (upd _ (placeN (finS P 0).seq L) _) (placeN (finS P 1).seq L) _) (placeN (finS P 2).seq L) _ = _
  rw [(finS_good P 0 (by decide)).2, (finS_good P 1 (by decide)).2, (finS_good P 2 (by decide)).2, fin_place 0 L (by decide) hL, fin_place 1 L (by decide) hL, fin_place 2 L (by decide) hL]
  rfl
def finX (L P : Nat) (nt : ByteArray) (i : Nat) : Option Hd := if i = 0 then some (hdB L P nt) else some (hdA L P nt)
def finY (P i : Nat) : Option Sh := if i = 1 then some (finS P 0) else if i = 2 then some (finS P 1) else if i = 3 then some (finS P 2) else none
def finF (P : Nat) (q : Int) : Option Sh := if q = 3 then some (finS P 2) else if q = 2 then some (finS P 1) else if q = 1 then some (finS P 0) else none
theorem fin_fTo (P L : Nat) (hL : 96 ≤ L) (k : Nat) : fTo (finY P) L (4 + k) = finF P := by
  induction k with
  | zero =>
    have e0 : finY P 0 = none := rfl
    have e1 : finY P 1 = some (finS P 0) := rfl
    have e2 : finY P 2 = some (finS P 1) := rfl
    have e3 : finY P 3 = some (finS P 2) := rfl
    have s0 := (finS_good P 0 (by decide)).2
    have s1 := (finS_good P 1 (by decide)).2
    have s2 := (finS_good P 2 (by decide)).2
    have f1 : fTo (finY P) L 1 = fun _ => none := by show (match finY P 0 with | none => fTo (finY P) L 0 | some s => if s.seq % (L : Int) = ((0 : Nat) : Int) then setS (fTo (finY P) L 0) s else fTo (finY P) L 0) = _; rw [e0]; rfl
    have f2 : fTo (finY P) L 2 = setS (fun _ => none) (finS P 0) := by
      show (match finY P 1 with | none => fTo (finY P) L 1 | some s => if s.seq % (L : Int) = ((1 : Nat) : Int) then setS (fTo (finY P) L 1) s else fTo (finY P) L 1) = _
      rw [e1, f1]
      show (if (finS P 0).seq % (L : Int) = ((1 : Nat) : Int) then _ else _) = _
      rw [s0, if_pos (by rw [Int.emod_eq_of_lt (by omega) (by omega)]; decide)]
    have f3 : fTo (finY P) L 3 = setS (setS (fun _ => none) (finS P 0)) (finS P 1) := by
      show (match finY P 2 with | none => fTo (finY P) L 2 | some s => if s.seq % (L : Int) = ((2 : Nat) : Int) then setS (fTo (finY P) L 2) s else fTo (finY P) L 2) = _
      rw [e2, f2]
      show (if (finS P 1).seq % (L : Int) = ((2 : Nat) : Int) then _ else _) = _
      rw [s1, if_pos (by rw [Int.emod_eq_of_lt (by omega) (by omega)]; decide)]
    show fTo (finY P) L 4 = _
    show (match finY P 3 with | none => fTo (finY P) L 3 | some s => if s.seq % (L : Int) = ((3 : Nat) : Int) then setS (fTo (finY P) L 3) s else fTo (finY P) L 3) = _
    rw [e3, f3]
    show (if (finS P 2).seq % (L : Int) = ((3 : Nat) : Int) then _ else _) = _
    rw [s2, if_pos (by rw [Int.emod_eq_of_lt (by omega) (by omega)]; decide)]
    funext q
    unfold setS finF
    rw [s0, s1, s2]
    rfl
  | succ k ih =>
    have e : finY P (4 + k) = none := by unfold finY; rw [if_neg (by omega), if_neg (by omega), if_neg (by omega)]
    show (match finY P (4 + k) with | none => fTo (finY P) L (4 + k) | some s => if s.seq % (L : Int) = ((4 + k : Nat) : Int) then setS (fTo (finY P) L (4 + k)) s else fTo (finY P) L (4 + k)) = _
    rw [e]
    exact ih
theorem fin_note (P K : Nat) : bs (noteS P (numS K)) = Pl.be 2 (P : Int) ++ Pl.be 2 (K : Int) := by
  rw [noteS_bs, numS, bs_nums (Pl.be_byt _ _)]
theorem fin_nsz (P K : Nat) : (noteS P (numS K)).size = 4 := by
  have := congrArg List.length (fin_note P K)
  rw [bs_len, List.length_append, Pl.be_len, Pl.be_len] at this
  exact this
theorem hdA_good (L P K : Nat) (hL : L ≤ 512) : (hdA L P (numS K)).good := ⟨by show (0 : Int) ≤ 1 ∧ (1 : Int) < 18446744073709551616; decide, by show (0 : Int) ≤ 1 ∧ (1 : Int) < 18446744073709551616; decide, by show L < 65536; omega, by show (noteS P (numS K)).size ≤ 64; rw [fin_nsz]; decide⟩
theorem hdB_good (L P K : Nat) (hL : L ≤ 512) : (hdB L P (numS K)).good := ⟨by show (0 : Int) ≤ 1 + 1 ∧ (1 : Int) + 1 < 18446744073709551616; decide, by show (0 : Int) ≤ 1 ∧ (1 : Int) < 18446744073709551616; decide, by show L < 65536; omega, by show (noteS P (numS K)).size ≤ 64; rw [fin_nsz]; decide⟩
theorem hd_is {h : Hd} (hg : h.good) : HdIs h.bytes (some h) := ⟨⟨headB_len _ _ _ _ (by have := hg.2.2.2; omega), headB_byt _ _ _ _ (by have := hg.2.2.2; omega)⟩, hg, rfl⟩
theorem fin_hd (c : Nat → List Int) (L P K : Nat) (hL : 96 ≤ L) (hL2 : L ≤ 512) (i : Nat) (hi : i < 2) : HdIs (finC c L P (numS K) i) (finX L P (numS K) i) := by
  rw [fin_eq c L P _ hL]
  have h : i = 0 ∨ i = 1 := by omega
  rcases h with rfl | rfl
  · exact hd_is (hdB_good L P K hL2)
  · exact hd_is (hdA_good L P K hL2)
theorem fin_best (L P : Nat) (nt : ByteArray) : bestTo (finX L P nt) 2 = some (hdB L P nt, 0) := by
  show (if (hdB L P nt).gen < (hdA L P nt).gen then some (hdA L P nt, 1) else some (hdB L P nt, 0)) = _
  rw [if_neg (by show ¬ (1 : Int) + 1 < 1; decide)]
theorem sh_is {s : Sh} (hg : s.good) : ShIs s.bytes (some s) := ⟨⟨sheetB_len _ _ _ hg.2, sheetB_byt _ _ _⟩, hg, rfl⟩
theorem fin_sh (c : Nat → List Int) (L P K : Nat) (hL : 96 ≤ L) (hc : ∀ i, c i = zeros 512) (i : Nat) (hi : i < L) : ShIs (finC c L P (numS K) (2 + i)) (finY P i) := by
  rw [fin_eq c L P _ hL]
  by_cases h1 : i = 1
  · subst h1; exact sh_is (finS_good P 0 (by decide)).1
  · by_cases h2 : i = 2
    · subst h2; exact sh_is (finS_good P 1 (by decide)).1
    · by_cases h3 : i = 3
      · subst h3; exact sh_is (finS_good P 2 (by decide)).1
      · unfold finY
        rw [if_neg h1, if_neg h2, if_neg h3]
        unfold upd
        rw [if_neg (by omega), if_neg (by omega), if_neg (by omega), if_neg (by omega)]
        unfold fmtC upd
        rw [if_neg (by omega), if_neg (by omega), hc]
        exact sh_zeros
theorem look_fin (bd n : Nat) (F : Nat → Prop) (c : Nat → List Int) (m L P K : Nat) (W : World) (hd : Ds W bd n F (finC c L P (numS K)) m) (hm : m ≤ 100000) (hnn : n ≤ 100000) (hc : ∀ i, c i = zeros 512) (ht : Tab W)
    (hL : 96 ≤ L ∧ L ≤ 512) (hP : 64 ≤ P ∧ P ≤ 1024) (hK : 3 ≤ K ∧ K ≤ 200) (hn : 2 + L + P + 5 * K ≤ n) :
    Calls Tryz.prog 8 #[.pointer (some ⟨bd, 0, none⟩)] W (fun e W' => (∃ q : Nat, q ≤ 96 ∧ e = .returned (.tuple #[shpV L P K ((n : Int) - 2 - L - P - 5 * K) q, .int .i64 0])) ∧ Below W.heap.size W W') := by
  have hf : fTo (finY P) L L = finF P := by
    have := fin_fTo P L hL.1 (L - 4)
    rwa [show 4 + (L - 4) = L from by omega] at this
  refine (look_ok bd n F _ m (finX L P (numS K)) (hdB L P (numS K)) 0 W hd hm hnn (fin_hd c L P K hL.1 hL.2) (fin_best L P _) (by show 1 ≤ L; omega) (by show L < 60000; omega) (finY P) (fin_sh c L P K hL.1 hc) ht (hdB_good L P K hL.2)
    (finS P) 3 (by decide) (by show (1 : Int) + ((3 : Nat) : Int) < _; decide) ?_ ?_ ?_ P K (fin_note P K) hP hK hn).mono ?_
  · intro i hi
    show fTo (finY P) L L (1 + (i : Int)) = _
    rw [hf]
    have h : i = 0 ∨ i = 1 ∨ i = 2 := by omega
    rcases h with rfl | rfl | rfl <;> rfl
  · show fTo (finY P) L L ((1 : Int) + ((3 : Nat) : Int)) = _
    rw [hf]
    rfl
  · intro q s
    show fTo (finY P) L L q = _ → _
    rw [hf]
    unfold finF
    intro h
    split at h
    · omega
    · split at h
      · omega
      · split at h
        · omega
        · cases h
  · rintro e W' ⟨rfl, hb⟩
    exact ⟨⟨_, Nat.le_trans (roll_len _ _) (by decide), rfl⟩, hb⟩
end Go.Proofs.YtnnfiicmplkakaaGreatDoor
namespace Go.Proofs.YtnnfiicmplkakaaGreatDoor
open Go.RowKit Go.Shelf

theorem ext_list (s : ByteArray) (a b : Nat) : (s.extract a b).data.toList = (s.data.toList.take b).drop a := by
  rw [ByteArray.data_extract, Array.toList_extract]
  rw [List.extract_eq_take_drop, List.drop_take]
theorem cutS_list (s0 : Int) (T : ByteArray) (k : Nat) : (cutS s0 T k).text.data.toList = if k < cutQ T then (T.data.toList.take (497 * k + 497)).drop (497 * k) else T.data.toList.drop (497 * k) := by
  unfold cutS
  split
  · exact ext_list _ _ _
  · show (restT T k).data.toList = _
    unfold restT
    rw [ext_list, List.take_of_length_le (by rw [size_list]; exact Nat.le_refl _)]
theorem roll_succ (t : Nat → Sh) (k : Nat) : roll t (k + 1) = if (t k).last then ((roll t k).1 ++ [⟨((roll t k).2 ++ (t k).text.data.toList).toArray⟩], []) else ((roll t k).1, (roll t k).2 ++ (t k).text.data.toList) := rfl
theorem roll_part (t : Nat → Sh) (s0 : Int) (T : ByteArray) (a : Nat) (h : ∀ i, i ≤ cutQ T → t (a + i) = cutS s0 T i) (h0 : (roll t a).2 = []) (k : Nat) (hk : k ≤ cutQ T) : roll t (a + k) = ((roll t a).1, T.data.toList.take (497 * k)) := by
  induction k with
  | zero => rw [Nat.add_zero, Nat.mul_zero, List.take_zero, ← h0]
  | succ k ih =>
    have e := h k (by omega)
    have hl : (t (a + k)).last = false := by
      rw [e]
      unfold cutS
      rw [if_pos (by omega)]
    rw [show a + (k + 1) = a + k + 1 from rfl, roll_succ, hl, if_neg (by decide), ih (by omega), e, cutS_list, if_pos (by omega)]
    show (_, List.take (497 * k) T.data.toList ++ _) = _
    rw [← List.take_append_drop (497 * k) (T.data.toList.take (497 * (k + 1))), List.take_take, Nat.min_eq_left (by omega), show 497 * (k + 1) = 497 * k + 497 from by omega]
theorem roll_cut (t : Nat → Sh) (s0 : Int) (T : ByteArray) (a : Nat) (h : ∀ i, i ≤ cutQ T → t (a + i) = cutS s0 T i) (h0 : (roll t a).2 = []) : roll t (a + (cutQ T + 1)) = ((roll t a).1 ++ [T], []) := by
  have e := h (cutQ T) (Nat.le_refl _)
  have hl : (t (a + cutQ T)).last = true := by
    rw [e]
    unfold cutS
    rw [if_neg (by omega)]
  rw [show a + (cutQ T + 1) = a + cutQ T + 1 from rfl, roll_succ, hl, if_pos rfl, roll_part t s0 T a h h0 _ (Nat.le_refl _), e, cutS_list, if_neg (by omega)]
  show ((roll t a).1 ++ [(⟨(List.take (497 * cutQ T) T.data.toList ++ List.drop (497 * cutQ T) T.data.toList).toArray⟩ : ByteArray)], ([] : List UInt8)) = _
  rw [List.take_append_drop]
theorem roll_fin (P : Nat) : (roll (finS P) 3).1 = [finT P] := by
  have h := roll_cut (finS P) 1 (finT P) 0 (fun i _ => by rw [Nat.zero_add]; rfl) rfl
  rw [finQ] at h
  have h : roll (finS P) 3 = ([] ++ [finT P], []) := h
  rw [h]
  rfl
theorem next_fin {P : Nat} {nx : Int} (h : NextIs (finF P) 1 nx) : nx = 4 := by
  obtain ⟨h1, h2, h3, h4⟩ := h
  have h5 := h3 3 (finS P 2) rfl
  rcases h4 with h4 | ⟨q, s, hq, e⟩
  · omega
  · unfold finF at hq
    split at hq
    · omega
    · split at hq
      · omega
      · split at hq
        · omega
        · cases hq
/-- the pages of the text of a format -/
def finE (P : Nat) : List (Nat × List Int) := [(0, nI (bytesTo (setB ws0 1) P)), (1, zeros 512)]
theorem finE_good (P : Nat) (hP : 64 ≤ P) : GoodE P (finE P) := by
  intro e he
  have h : e = (0, nI (bytesTo (setB ws0 1) P)) ∨ e = (1, zeros 512) := by simpa [finE] using he
  rcases h with rfl | rfl
  · exact ⟨by show 0 < P; omega, by rw [nI_len, bytesTo_len], nI_byt (bytesTo_lt _ _)⟩
  · exact ⟨by show 1 < P; omega, zeros_len, zeros_byt 512⟩
theorem fin_tx (P : Nat) (hP : 64 ≤ P) : TxIs P (finT P) (ch2 P, [0, 1]) := by
  refine ⟨⟨finE P, ?_, finE_good P hP, Nat.lt_of_lt_of_le (by decide : 0 < 2) (Nat.le_refl _), Nat.le_trans (Nat.le_refl 2) (by decide : 2 ≤ 1024), rfl⟩, ch2_rising P, Nat.le_trans (Nat.le_refl 2) (by decide : 2 ≤ 1024), fun k hk => ?_⟩
  · rfl
  · have h : k = 0 ∨ k = 1 := by simpa using hk
    rcases h with rfl | rfl <;> omega
/-- the sectors behind the pages' writing -/
def finA (c : Nat → List Int) (L P : Nat) (nt : ByteArray) : Nat → List Int := applyT (finC c L P nt) L [(ch2 P, [0, 1])]
theorem finA_eq (c : Nat → List Int) (L P : Nat) (nt : ByteArray) : finA c L P nt = upd (upd (finC c L P nt) (2 + L + 0) (nI (bytesTo (setB ws0 1) P))) (2 + L + 1) (zeros 512) := rfl
theorem finA_low (c : Nat → List Int) (L P : Nat) (nt : ByteArray) (i : Nat) (h : i < 2 + L) : finA c L P nt i = finC c L P nt i := by
  rw [finA_eq]
  unfold upd
  rw [if_neg (by omega), if_neg (by omega)]
end Go.Proofs.YtnnfiicmplkakaaGreatDoor
namespace Go.Proofs.YtnnfiicmplkakaaGreatDoor
open Go.RowKit Go.Shelf

theorem run_equal_func_nil {P : Program} (w : World) (d : Nat) (t : TypeId) (a b : Array TypeId) (v : Bool) (f : Fn) (p q : Array Value) (h : P.underlying t = some (.func a b v)) :
    (Op.equalIn (d + 1) t (.func f p q) .nilFunc).run P w = .ok false w := by
  simp [Op.equalIn, run_underlying h]
theorem run_neq_func_nil {P : Program} (w : World) (t : TypeId) (a b : Array TypeId) (v : Bool) (f : Fn) (p q : Array Value) (h : P.underlying t = some (.func a b v)) :
    (binOp .neq t (.func f p q) .nilFunc).run P w = .ok (.bool true) w := by
  simp only [binOp]
  simp [Op.equal, Op.maxDepth, run_equal_func_nil w 9999 t a b v f p q h]
theorem run_eql_func_nil {P : Program} (w : World) (t : TypeId) (a b : Array TypeId) (v : Bool) (f : Fn) (p q : Array Value) (h : P.underlying t = some (.func a b v)) :
    (binOp .eql t (.func f p q) .nilFunc).run P w = .ok (.bool false) w := by
  simp only [binOp]
  simp [Op.equal, Op.maxDepth, run_equal_func_nil w 9999 t a b v f p q h]
theorem must_any (c : Int) (W : World) : Calls Tryz.prog 123 #[.bool true, .int .i64 c] W fun e w' => e = .returned (.tuple #[]) ∧ W = w' := by
  go_enter Tryz.func123, Tryz.ntmps123
  go_wp2
  go_end0
  exact ⟨rfl, rfl⟩
theorem may_shape (kw vw : Int) (W : World) (h : 1 ≤ kw ∧ kw ≤ 64 ∧ 0 ≤ vw ∧ vw ≤ 64) : Calls Tryz.prog 170 #[.agg #[.int .i64 kw, .int .i64 vw]] W fun e w' => e = .returned (.bool true) ∧ Below W.heap.size W w' := by
  have d1 : decide (1 ≤ kw) = true := decide_eq_true h.1
  have d2 : decide (kw ≤ 64) = true := decide_eq_true h.2.1
  have d3 : decide (0 ≤ vw) = true := decide_eq_true h.2.2.1
  have d4 : decide (vw ≤ 64) = true := decide_eq_true h.2.2.2
  have HB := hide (show Below W.heap.size W (W.alloc (.cells #[.int .i64 kw, .int .i64 vw] 151)) from (Below.refl _ _).alloc (Nat.le_refl _) _)
  clear h
  go_enter Tryz.func170, Tryz.ntmps170
  go_wp2_with fail
  go_ret
  exact ⟨rfl, HB.out⟩
/-- a tree that is empty, at a forest's block: its cells -/
structure EmT (W : World) (fb o sb : Nat) (kw vw : Int) : Prop where
  lt : fb < W.heap.size
  c0 : W.cell? ⟨fb, o, none⟩ = some (.pointer (some ⟨sb, 0, none⟩))
  c1 : W.cell? ⟨fb, o + 1, none⟩ = some (.int .i64 kw)
  c2 : W.cell? ⟨fb, o + 2, none⟩ = some (.int .i64 vw)
  c3 : W.cell? ⟨fb, o + 3, none⟩ = some (.int .i64 0)
theorem EmT.below {W W' : World} {fb o sb : Nat} {kw vw : Int} (h : EmT W fb o sb kw vw) (hb : Below W.heap.size W W') : EmT W' fb o sb kw vw :=
  ⟨Nat.lt_of_lt_of_le h.lt hb.size, (hb.cell (p := ⟨fb, o, none⟩) h.lt).trans h.c0, (hb.cell (p := ⟨fb, o + 1, none⟩) h.lt).trans h.c1, (hb.cell (p := ⟨fb, o + 2, none⟩) h.lt).trans h.c2, (hb.cell (p := ⟨fb, o + 3, none⟩) h.lt).trans h.c3⟩
theorem tthere_any (fb o sb : Nat) (kw vw : Int) (W : World) (h : EmT W fb o sb kw vw) (hk : 1 ≤ kw ∧ kw ≤ 64 ∧ 0 ≤ vw ∧ vw ≤ 64) :
    Calls Tryz.prog 122 #[.pointer (some ⟨fb, o, none⟩)] W fun e w' => e = .returned (.tuple #[]) ∧ Below W.heap.size W w' := by
  obtain ⟨hl, c0, c1, c2, c3⟩ := h
  have HM := hide (may_shape kw vw W hk)
  clear hk
  go_enter Tryz.func122, Tryz.ntmps122
  go_wp2_with (first | (go_at_call 123; refine (must_any _ _).mono ?_; rintro e w' ⟨rfl, rfl⟩))
  refine HM.out.mono ?_
  rintro e w1 ⟨rfl, hb⟩
  have HB := hide hb
  clear hb
  go_wp2_with (first | (go_at_call 123; refine (must_any _ _).mono ?_; rintro e w' ⟨rfl, rfl⟩))
  go_end0
  exact ⟨rfl, HB.out⟩
theorem ends_ok (b : Nat) (w : World) : CallsD Tryz.prog 121 #[.pointer (some ⟨b, 0, none⟩)] .returning w fun e u' w' => u' = .returning ∧ (e = .returned (.tuple #[]) ∧ w' = w) := by
  refine callsD_of_wpS Tryz.func121 rfl fun c₀ cs hu => ?_
  apply wpS_seq
  apply wpS_region
  simp [wpOpsS, go_sem, recoverD, hu, Tryz.ntmps121, Exit.thenS]
  apply wpS_seq
  apply wpS_region
  simp [wpOpsS, go_sem, recoverD, hu, Tryz.ntmps121, Exit.thenS]
  refine wpS_cond (t := false) (by simp [Act.eval, Array.replicate]) ?_
  simp only [Bool.false_eq_true, if_false]
  refine wpS_of_wp (wp_skip ?_)
  cases c₀
  simp_all [bodyPostS, results, Tryz.results121]
set_option maxHeartbeats 1000000 in
theorem tget_none (fb o sb : Nat) (kw vw : Int) (key : ByteArray) (W : World) (h : EmT W fb o sb kw vw) (hk : 1 ≤ kw ∧ kw ≤ 64 ∧ 0 ≤ vw ∧ vw ≤ 64) (hkey : (key.size : Int) = kw) :
    Calls Tryz.prog 74 #[.pointer (some ⟨fb, o, none⟩), .string key] W fun e w' => e = .returned (.tuple #[.string ⟨#[]⟩, .bool false, .int .i64 0]) ∧ Below W.heap.size W w' := by
  have hal : Below W.heap.size W (W.alloc (.cells #[.int .i64 0] 34)) := (Below.refl _ _).alloc (Nat.le_refl _) _
  have HT1 := hide (h.below hal)
  have HTh := hide (tthere_any fb o sb kw vw _ HT1.out hk)
  have HA := hide hal
  have HX := hide (Whole.new W [.int .i64 0] 34)
  clear h hk hal
  have hbe : ((key.size : Int) == kw) = true := by rw [beq_iff_eq]; exact hkey
  clear hkey
  go_enter_defers Tryz.func74, Tryz.ntmps74
  go_wp2_with fail
  refine HTh.out.mono ?_
  rintro e w1 ⟨rfl, hb⟩
  have HB1 := hide (HA.out.trans (hb.mono HA.out.size))
  have HX1 := hide (HX.out.below hb HX.out.lt)
  obtain ⟨hl, c0, c1, c2, c3⟩ := HT1.out.below hb
  have y0 := HX1.out.cell 0
  have x0 := HX1.out.frozen 0
  simp only [List.getElem?_cons_zero] at y0
  clear hb c0 c2 hl
  go_wp2_with (first | (go_at_call 123; refine (must_any _ _).mono ?_; rintro e w' ⟨rfl, rfl⟩))
  refine leaves_cons (f := 121) (args := #[.pointer (some ⟨W.heap.size, 0, none⟩)]) (by simp) (by simp [go_sem]) ?_
  refine (ends_ok _ _).mono ?_
  rintro e u' w'' ⟨rfl, rfl, rfl⟩
  have hc := (HX1.out.set_ 0 (.int .i64 0)).cell 0
  have hB := HB1.out.setCell (p := ⟨W.heap.size, 0, none⟩) (Nat.le_refl _) (.int .i64 0)
  simp only [List.set_cons_zero, List.getElem?_cons_zero] at hc
  simp [Leaves, settle, results, Tryz.results74, go_sem]
  rw [hc]
  exact ⟨_, rfl, rfl, hB⟩
set_option maxHeartbeats 1000000 in
set_option maxRecDepth 20000 in
/-- .. told by a loop that has none -/
theorem teach_none (fb o sb : Nat) (kw vw : Int) (fn : Fn) (p1 p2 : Array Value) (W : World) (h : EmT W fb o sb kw vw) (hk : 1 ≤ kw ∧ kw ≤ 64 ∧ 0 ≤ vw ∧ vw ≤ 64) :
    Calls Tryz.prog 92 #[.pointer (some ⟨fb, o, none⟩), .func fn p1 p2] W fun e w' => e = .returned (.int .i64 0) ∧ Below W.heap.size W w' := by
  have hal1 : Below W.heap.size W (W.alloc (.cells [.func fn p1 p2].toArray 141)) := (Below.refl _ _).alloc (Nat.le_refl _) _
  have HD := hide (Whole.new W [.func fn p1 p2] 141)
  have HA1 := hide hal1
  have HT0 := hide (h.below hal1)
  clear h hal1
  go_enter_defers Tryz.func92, Tryz.ntmps92
  have hs1 : (W.alloc (.cells [.func fn p1 p2].toArray 141)).heap.size = W.heap.size + 1 := by simp
  have hal2 : Below W.heap.size W ((W.alloc (.cells [.func fn p1 p2].toArray 141)).alloc (.cells [.int .i64 0].toArray 34)) := ((Below.refl W.heap.size W).alloc (Nat.le_refl _) _).alloc (by omega) _
  have hD := HD.out.below (B := W.heap.size + 1) ((Below.refl (W.heap.size + 1) _).alloc (by omega) (.cells [.int .i64 0].toArray 34)) (Nat.lt_succ_self _)
  have hX := Whole.new (W.alloc (.cells [.func fn p1 p2].toArray 141)) [.int .i64 0] 34
  rw [hs1] at hX
  have hT := HT0.out.below ((Below.refl _ _).alloc (Nat.le_refl _) (.cells [.int .i64 0].toArray 34))
  have HA2 := hide hal2
  have HD2 := hide hD
  have HX2 := hide hX
  have HT2 := hide hT
  have HTh := hide (tthere_any fb o sb kw vw _ hT hk)
  clear hal2 hD hX hT hs1 HD HT0 hk
  have hq := fun w => run_neq_func_nil (P := Tryz.prog) w 141 _ _ _ fn p1 p2 Tryz.underlying141
  go_wp2_with (first | (go_at_call 123; refine (must_any _ _).mono ?_; rintro e w' ⟨rfl, rfl⟩))
  change Calls _ _ _ ((W.alloc (.cells [.func fn p1 p2].toArray 141)).alloc (.cells [.int .i64 0].toArray 34)) _
  generalize (W.alloc (.cells [.func fn p1 p2].toArray 141)).alloc (.cells [.int .i64 0].toArray 34) = w2 at *
  refine HTh.out.mono ?_
  rintro e w3 ⟨rfl, hb⟩
  have hl2 := HX2.out.lt
  have HB3 := hide (HA2.out.trans (hb.mono HA2.out.size))
  have HX3 := hide (HX2.out.below hb hl2)
  obtain ⟨hl, c0, c1, c2, c3⟩ := HT2.out.below hb
  have y0 := HX3.out.cell 0
  have x0 := HX3.out.frozen 0
  simp only [List.getElem?_cons_zero] at y0
  clear hb c0 c1 c2 hl
  go_wp2_with fail
  refine leaves_cons (f := 121) (args := #[.pointer (some ⟨W.heap.size + 1, 0, none⟩)]) (by simp) (by simp [go_sem]) ?_
  refine (ends_ok _ _).mono ?_
  rintro e u' w'' ⟨rfl, rfl, rfl⟩
  have hc := (HX3.out.set_ 0 (.int .i64 0)).cell 0
  have hB := HB3.out.setCell (p := ⟨W.heap.size + 1, 0, none⟩) (by show W.heap.size ≤ W.heap.size + 1; omega) (.int .i64 0)
  simp only [List.set_cons_zero, List.getElem?_cons_zero] at hc
  simp [Leaves, settle, results, Tryz.results92, go_sem]
  rw [hc]
  exact ⟨_, rfl, rfl, hB⟩
end Go.Proofs.YtnnfiicmplkakaaGreatDoor
