/- Walk of sheet.cut's iterator: a text's sheets, one behind the other. Walk of sheet.Cut: the sheets are collected. Walk of (*wal.Log).Commit: a text's sheets go to their places. A page store said by functions; walk of (*Store).Page. -/
import Derived.Test.YtnnfiicmplkakaaGreatDoorQ5
import Derived.Test.YtnnfiicmplkakaaGreatDoorQ7
import Derived.Shelf.Abstract
import Derived.Shelf.RegionOpen
import Derived.OwnWalkIn
import Derived.TacticsInMore
import Derived.LoopNIn
import Derived.LoopIn
import Derived.Maps.OwnIn
import Derived.Stop.RegionWithIn
import Derived.Maps.AppendAt
namespace Go.Proofs.YtnnfiicmplkakaaGreatDoor
open Go.RowKit Go.Shelf

def cutQ (text : ByteArray) : Nat := (text.size - 1) / 497
def restT (text : ByteArray) (k : Nat) : ByteArray := text.extract (497 * k) text.size
def cutS (s0 : Int) (text : ByteArray) (k : Nat) : Sh := if k < cutQ text then ⟨s0 + k, false, text.extract (497 * k) (497 * k + 497)⟩ else ⟨s0 + k, true, restT text k⟩
/-- a text's sheets -/
def cutL (s0 : Int) (text : ByteArray) : List Sh := (List.range (cutQ text + 1)).map (cutS s0 text)
theorem cutL_len (s0 : Int) (text : ByteArray) : (cutL s0 text).length = cutQ text + 1 := by simp [cutL]
theorem cutL_get (s0 : Int) (text : ByteArray) (k : Nat) (h : k < (cutL s0 text).length) : (cutL s0 text)[k] = cutS s0 text k := by simp [cutL]
theorem cutL_take (s0 : Int) (text : ByteArray) (k : Nat) (h : k ≤ cutQ text) : (cutL s0 text).take (k + 1) = (cutL s0 text).take k ++ [cutS s0 text k] := by
  rw [List.take_succ_eq_append_getElem (by rw [cutL_len]; omega), cutL_get]
theorem restT_size (text : ByteArray) (k : Nat) : (restT text k).size = text.size - 497 * k := by
  unfold restT
  rw [ByteArray.size_extract]
  omega
theorem restT_zero (text : ByteArray) : restT text 0 = text := by unfold restT; simp
theorem restT_head (text : ByteArray) (k : Nat) (h : k < cutQ text) : (restT text k).extract 0 497 = text.extract (497 * k) (497 * k + 497) := by
  have : k + 1 ≤ (text.size - 1) / 497 := h
  unfold restT
  rw [ByteArray.extract_extract]
  congr 1
  omega
theorem restT_tail (text : ByteArray) (k : Nat) (h : k < cutQ text) : (restT text k).extract 497 (restT text k).size = restT text (k + 1) := by
  have : k + 1 ≤ (text.size - 1) / 497 := h
  rw [restT_size text k]
  unfold restT
  rw [ByteArray.extract_extract]
  congr 1 <;> omega
def boxLen (w : World) (b : Nat) : Nat := match w.cell? ⟨b, 0, none⟩ with
  | some (.string s) => s.size
  | _ => 0
theorem boxLen_whole {w : World} {b : Nat} {t : TypeId} {s : ByteArray} (h : Whole w b t [.string s]) : boxLen w b = s.size := by
  unfold boxLen
  rw [h.cell 0]
  rfl
/-- the iterator's boxes -/
structure CutSt (W wr : World) (Bt Bs : Nat) (s0 : Int) (text : ByteArray) (k : Nat) : Prop where
  t : Whole wr Bt 9 [.string (restT text k)]
  s : Whole wr Bs 66 [.int .u64 (s0 + k)]
  size : W.heap.size ≤ wr.heap.size
theorem CutSt.kept {W wr w' : World} {Bt Bs : Nat} {s0 : Int} {text : ByteArray} {k : Nat} {Ex : Nat → Prop} (h : CutSt W wr Bt Bs s0 text k) (hk : KeptX Ex wr w') (e1 : ¬ Ex Bt) (e2 : ¬ Ex Bs) : CutSt W w' Bt Bs s0 text k :=
  ⟨h.t.of_block (hk.2 _ h.t.lt e1), h.s.of_block (hk.2 _ h.s.lt e2), Nat.le_trans h.size hk.size⟩
theorem CutSt.step {W wr : World} {Bt Bs : Nat} {s0 : Int} {text : ByteArray} {k : Nat} (h : CutSt W wr Bt Bs s0 text k) (hne : Bt ≠ Bs) (v : Int) (hv : v = s0 + (k + 1 : Nat)) : CutSt W ((wr.setCell ⟨Bs, 0, none⟩ (.int .u64 v)).setCell ⟨Bt, 0, none⟩ (.string (restT text (k + 1)))) Bt Bs s0 text (k + 1) := by
  subst hv
  have h1 := h.s.set_ 0 (.int .u64 (s0 + (k + 1 : Nat)))
  have h2 : Whole (wr.setCell ⟨Bs, 0, none⟩ (.int .u64 (s0 + (k + 1 : Nat)))) Bt 9 [.string (restT text k)] := h.t.of_block (Below.heap_setCell wr _ _ _ hne)
  exact ⟨h2.set_ 0 _, h1.of_block (Below.heap_setCell _ _ _ _ (fun e => hne e.symm)), by have := h.size; simpa [World.setCell] using this⟩
set_option maxHeartbeats 2000000 in
set_option maxRecDepth 20000 in
theorem cut_in (m l Bt Bs : Nat) (s0 : Int) (text : ByteArray) (Ex : Nat → Prop) (J : List Sh → World → Prop) (W : World)
    (hne : Bt ≠ Bs) (ct : Whole W Bt 9 [.string text]) (cs : Whole W Bs 66 [.int .u64 s0]) (hs0 : 0 ≤ s0) (hs1 : s0 < 9223372036854775808) (hsz : text.size ≤ 1000000)
    (e1 : ¬ Ex Bt) (e2 : ¬ Ex Bs) (hJ : AbidesE (fun k => k = Bt ∨ k = Bs) J)
    (hY : ∀ pre x W1, J pre W1 → (pre ++ [x]) <+: cutL s0 text → YieldAt Fence.wide (m - 1) Tryz.prog l #[x.val] W1 (fun e W' => e = .returned (.bool true) ∧ J (pre ++ [x]) W' ∧ KeptX Ex W1 W')) (h0 : J [] W) :
    CallsIn Fence.wide m Tryz.prog 223 #[.func (.yield l) #[] #[], .pointer (some ⟨Bt, 0, none⟩), .pointer (some ⟨Bs, 0, none⟩)] W fun e W' => (∃ v, e = .returned v) ∧ J (cutL s0 text) W' := by
  have HY := hide hY
  have HJ := hide hJ
  have H0 := hide h0
  have hs0' : s0 + ((0 : Nat) : Int) = s0 := by omega
  have HS0 := hide (show CutSt W W Bt Bs s0 text 0 from ⟨by rw [restT_zero]; exact ct, by rw [hs0']; exact cs, Nat.le_refl _⟩)
  clear hs0'
  have hq : cutQ text ≤ 3000 := by unfold cutQ; omega
  have HQ := hide (show cutQ text = (text.size - 1) / 497 from rfl)
  clear hY hJ h0 ct cs
  refine callsIn_of_wp Tryz.func223 rfl trivial ?_ rfl
  simp only [Tryz.ntmps223, List.size_toArray, List.length_cons, List.length_nil, Nat.reduceAdd, Nat.reduceSub, Array.replicate_succ, Array.replicate_zero, List.push_toArray, List.append_toArray, List.nil_append, List.cons_append]
  gi_wp2
  gi_loopw [4] (fun _ wr => ∃ k : Nat, k ≤ cutQ text ∧ J ((cutL s0 text).take k) wr ∧ CutSt W wr Bt Bs s0 text k) (fun _ wr => boxLen wr Bt)
  case atStart => exact ⟨0, Nat.zero_le _, H0.out, HS0.out⟩
  case round =>
    obtain ⟨k, hk, hj, hst⟩ := hrel
    have Hj := hide hj
    have HS := hide hst
    have hrs := restT_size text k
    have HTk := hide (cutL_take s0 text k hk)
    have c1 := hst.t.cell 0
    have c2 := hst.s.cell 0
    have f1 := hst.t.frozen 0
    have f2 := hst.s.frozen 0
    simp only [List.getElem?_cons_zero] at c1 c2
    clear hj hst
    have HRs := hide hrs
    clear hrs
    by_cases hlt : k < cutQ text
    · have hh := restT_head text k hlt
      have ht := restT_tail text k hlt
      have HC := hide (show cutS s0 text k = ⟨s0 + k, false, text.extract (497 * k) (497 * k + 497)⟩ by unfold cutS; rw [if_pos hlt])
      have HStep := hide (fun w' (h : CutSt W w' Bt Bs s0 text k) => h.step hne (s0 + ((k : Int) + 1)) (by omega))
      have HLt := hide (show (restT text (k + 1)).size < (restT text k).size by have := HQ.out; rw [restT_size, restT_size]; omega)
      have h497 : (497 : Int) < ((restT text k).size : Int) := by have := HQ.out; have := HRs.out; omega
      have hpre : (cutL s0 text).take k ++ [cutS s0 text k] <+: cutL s0 text := by rw [← HTk.out]; exact List.take_prefix _ _
      have hsv : IntKind.u64.wrap (s0 + (k : Int) + 1) = s0 + ((k : Int) + 1) := by rw [IntKind.wrap_u64]; omega
      obtain ⟨fn, tmps, assign, body, hy, hR⟩ := HY.out ((cutL s0 text).take k) (cutS s0 text k) wr.drew (HJ.out _ _ _ Hj.out (KeptX.refl _ wr).drew) hpre
      rw [HC.out] at hy hR
      unfold Sh.val at hy
      have HSd := hide (show CutSt W wr.drew Bt Bs s0 text k from ⟨HS.out.t, HS.out.s, HS.out.size⟩)
      have hBx := boxLen_whole HS.out.t
      rw [← HC.out, ← HTk.out] at hR
      have HBx := hide hBx
      have HR := hide hR
      clear hR hpre HRs HS hBx
      generalize hrt : restT text k = rt at *
      have HRt := hide hrt
      clear hrt
      generalize hrt1 : restT text (k + 1) = rt1 at *
      have HRt1 := hide hrt1
      clear hrt1
      generalize text.extract (497 * k) (497 * k + 497) = tx at *
      gi_wp2
      gi_region_with ((refine ⟨fun h => (by cases h), HR.out.mono ?_⟩; rintro e W2 ⟨rfl, hJ2, hk2⟩))
      all_goals
        have HJ2 := hide hJ2
        have HS2 := hide (HSd.out.kept hk2 e1 e2)
        have HS3 := hide (HStep.out _ HS2.out)
        clear hJ2 hk2 c1 c2 f1 f2 hy
        have c1 := HS2.out.t.cell 0
        have c2 := HS2.out.s.cell 0
        have f1 := HS2.out.t.frozen 0
        have f2 := HS2.out.s.frozen 0
        simp only [List.getElem?_cons_zero] at c1 c2
        rw [HRt.out] at c1
        gi_wp2
        go_roundw
        case rel => exact ⟨k + 1, by omega, HJ.out _ _ _ HJ2.out (((KeptX.refl _ W2).trans (KeptX.setCell _ _ _ _ (.inr rfl))).trans (KeptX.setCell _ _ _ _ (.inl rfl))), HS3.out⟩
        case measure =>
          rw [boxLen_whole HS3.out.t, HBx.out, HRt1.out]
          exact HLt.out
    · obtain rfl : k = cutQ text := by omega
      have HC := hide (show cutS s0 text (cutQ text) = ⟨s0 + (cutQ text : Nat), true, restT text (cutQ text)⟩ by unfold cutS; rw [if_neg (Nat.lt_irrefl _)])
      have h497 : ¬ (497 : Int) < ((restT text (cutQ text)).size : Int) := by have := HQ.out; have := HRs.out; omega
      have hpre : (cutL s0 text).take (cutQ text) ++ [cutS s0 text (cutQ text)] <+: cutL s0 text := by rw [← HTk.out]; exact List.take_prefix _ _
      obtain ⟨fn, tmps, assign, body, hy, hR⟩ := HY.out _ (cutS s0 text (cutQ text)) wr Hj.out hpre
      rw [HC.out] at hy hR
      unfold Sh.val at hy
      rw [← HC.out, ← HTk.out] at hR
      have HR := hide hR
      have HFin := hide (show (cutL s0 text).take (cutQ text + 1) = cutL s0 text from List.take_of_length_le (by rw [cutL_len]; exact Nat.le_refl _))
      clear hR hpre HRs HS
      generalize restT text (cutQ text) = rt at *
      gi_wp2
      refine ⟨fun h => (by cases h), HR.out.mono ?_⟩
      rintro e W2 ⟨rfl, hJ2, hk2⟩
      rw [HFin.out] at hJ2
      have HJ2 := hide hJ2
      clear hJ2 hk2 hy
      gi_wp2
      go_end0
      exact ⟨⟨_, rfl⟩, HJ2.out⟩
end Go.Proofs.YtnnfiicmplkakaaGreatDoor
namespace Go.Proofs.YtnnfiicmplkakaaGreatDoor
open Go.RowKit Go.Shelf
attribute [local go_sem] Oper.semAt_some

def Sh.cells (s : Sh) : List Value := [.int .u64 s.seq, .bool s.last, .string s.text]
def shs (l : List Sh) : List Value := l.flatMap Sh.cells
theorem shs_len (l : List Sh) : (shs l).length = l.length * 3 := by
  induction l with
  | nil => rfl
  | cons x l ih => simp only [shs, List.flatMap_cons, List.length_append, List.length_cons] at ih ⊢; simp only [Sh.cells, List.length_cons, List.length_nil]; omega
theorem shs_snoc (l : List Sh) (x : Sh) : shs (l ++ [x]) = shs l ++ x.cells := by simp [shs]
theorem shs_get? (l : List Sh) (i c : Nat) (hi : i < l.length) (hc : c < 3) : (shs l)[i * 3 + c]? = (Sh.cells l[i])[c]? := by
  induction l generalizing i with
  | nil => simp at hi
  | cons x l ih =>
    cases i with
    | zero =>
      have h3 : c < (Sh.cells x).length := by simpa [Sh.cells] using hc
      simp only [shs, List.flatMap_cons, Nat.zero_mul, Nat.zero_add]
      rw [List.getElem?_append_left h3]
      rfl
    | succ i =>
      have := ih i (by simpa using hi)
      simp only [shs, List.flatMap_cons]
      rw [List.getElem?_append_right (by simp [Sh.cells]; omega)]
      have e : (i + 1) * 3 + c - (Sh.cells x).length = i * 3 + c := by simp [Sh.cells]; omega
      rw [e]
      exact this
theorem sh_one (s : Sh) : ∀ v ∈ s.cells, v.oneCell' = true := by
  intro v hv
  simp [Sh.cells] at hv
  rcases hv with rfl | rfl | rfl <;> rfl
theorem infoSheet : (Tryz.prog.info? 125).map (fun i => (i.zero, i.size, i.bytes)) = some (some (.agg #[.int .u64 0, .bool false, .string ByteArray.empty]), 3, 32) := by kernel_rfl
/-- what is collected so far -/
structure ColSt (w wr : World) (b0 base Bt Bs : Nat) (l : List Sh) : Prop where
  ex : ∃ v, Whole wr b0 259 [v] ∧ wr.ownsRow base 125 3 v l.length (shs l)
  kp : Kp (TwoF Bt Bs) w wr
theorem owns_keptx {w w' : World} {Ex : Nat → Prop} {base : Nat} {e : TypeId} {size : Nat} {v : Value} {n : Nat} {xs : List Value} (h : w.ownsRow base e size v n xs) (hk : KeptX Ex w w') (hn : ∀ k, Ex k → k < base) : w'.ownsRow base e size v n xs :=
  owns_block h fun g hg => hk.2 g (h.lt g hg).2 (fun e => by have := hn g e; have := (h.lt g hg).1; omega)
theorem ColSt.kept {w wr w' : World} {b0 base Bt Bs : Nat} {l : List Sh} {Ex : Nat → Prop} (h : ColSt w wr b0 base Bt Bs l) (hk : KeptX Ex wr w') (hn : ∀ k, Ex k → k < base) (hb : ¬ Ex b0) (hf : ∀ k, Ex k → TwoF Bt Bs k ∨ w.heap.size ≤ k) : ColSt w w' b0 base Bt Bs l := by
  obtain ⟨⟨v, h1, h2⟩, h3⟩ := h
  exact ⟨⟨v, h1.of_block (hk.2 _ h1.lt hb), owns_keptx h2 hk hn⟩, h3.trans hk.kp hf⟩
/-- behind Collect -/
def ColRes (Bt Bs : Nat) (l : List Sh) (w : World) (e : Ending) (w' : World) : Prop := ∃ v, e = .returned v ∧ w'.ownsRow w.heap.size 125 3 v l.length (shs l) ∧ Kp (TwoF Bt Bs) w w'
set_option maxHeartbeats 2000000 in
set_option maxRecDepth 20000 in
theorem appendSeq_any (Bt Bs : Nat) (s0 : Int) (text : ByteArray) (w : World) (hne : Bt ≠ Bs) (ct : Whole w Bt 9 [.string text]) (cs : Whole w Bs 66 [.int .u64 s0]) (hs0 : 0 ≤ s0) (hs1 : s0 < 9223372036854775808) (hsz : text.size ≤ 1000000) :
    Calls Tryz.prog 222 #[.slice none 0 0, .func (.func 223) #[] #[.pointer (some ⟨Bt, 0, none⟩), .pointer (some ⟨Bs, 0, none⟩)]] w (ColRes Bt Bs (cutL s0 text) w) := by
  obtain ⟨i0, hi, hz0, hz1, hz2⟩ := info_parts infoSheet
  have CT := hide ct
  have CS := hide cs
  have hl1 := ct.lt
  have hl2 := cs.lt
  clear ct cs
  have eg : ∀ args W, (callFunc 223 args).run Tryz.prog W = .ok (.enter 223 args) W := enters_of Tryz.func223 (by kernel_rfl) rfl
  refine callsIn_wide.1 (callsIn_of_wp_marks (n := 5) Tryz.func222 rfl trivial ?_ rfl)
  refine wpIn_wide.2 ?_
  simp only [Tryz.ntmps222, List.size_toArray, List.length_cons, List.length_nil, Nat.reduceAdd, Nat.reduceSub, Array.replicate_succ, Array.replicate_zero, List.push_toArray, List.append_toArray, List.nil_append, List.cons_append]
  have hw0 := Whole.new w [.slice none 0 0] 259
  have hb0 : Below w.heap.size w (w.alloc (.cells #[.slice none 0 0] 259)) := (Below.refl _ _).alloc (Nat.le_refl _) _
  have hsz0 : (w.alloc (.cells #[.slice none 0 0] 259)).heap.size = w.heap.size + 1 := by simp
  change Whole (w.alloc (.cells #[.slice none 0 0] 259)) _ _ _ at hw0
  have HSz := hide hsz0
  have HW0 := hide hw0
  have HB0 := hide hb0
  clear hw0 hb0 hsz0
  go_wp2
  generalize w.alloc (.cells #[.slice none 0 0] 259) = wp at *
  refine (wpIn_wide (n := 5)).1 (range_all (n := 5) rfl eg (fun x : Sh => #[x.val]) (fun _ => rfl) (cutL s0 text) (fun k => k = w.heap.size ∨ w.heap.size + 3 ≤ k) (fun k => k = Bt ∨ k = Bs) ?hEx ?hSt ?hseq
    (fun pre W => ColSt w W w.heap.size (w.heap.size + 3) Bt Bs pre) ?hI ?h0
    (fun x a' W => ∃ (Bx : Nat) (v3 v6 v8 v9 v10 v11 v12 : Value), a' = { tmps := #[.slice none 0 0, .func (.func 223) #[] #[.pointer (some ⟨Bt, 0, none⟩), .pointer (some ⟨Bs, 0, none⟩)], .pointer (some ⟨w.heap.size, 0, none⟩), v3, .slice none 0 0, .pointer (some ⟨Bx, 0, none⟩), v6, x.val, v8, v9, v10, v11, v12], defers := [] } ∧ wp.heap.size + 2 ≤ Bx ∧ Whole W Bx 125 x.cells)
    ?hAx ?hassign ?hbody ?hdone)
  case hEx => intro k hk; have := HSz.out; omega
  case hSt => rintro k (rfl | rfl) <;> (have := HSz.out; omega)
  case hseq =>
    intro J W hbW hzW hJ hY hj0
    have hz := HSz.out
    refine cut_in (5 - 1) _ Bt Bs s0 text _ J W hne ((CT.out.below HB0.out hl1).below hbW (by omega)) ((CS.out.below HB0.out hl2).below hbW (by omega)) hs0 hs1 hsz ?_ ?_ hJ hY hj0
    · omega
    · omega
  case hI =>
    intro pre W W' hr hk
    have hz := HSz.out
    exact hr.kept hk (fun k hk => by omega) (by omega) (fun k hk => hk.elim .inl fun e => .inr (by omega))
  case h0 => exact ⟨⟨_, HW0.out, World.ownsRow_nil _ _ _ _⟩, Kp.of_below HB0.out⟩
  case hAx =>
    rintro x a' W W' ⟨Bx, v3, v6, v8, v9, v10, v11, v12, rfl, hb, hw⟩ hW
    exact ⟨Bx, v3, v6, v8, v9, v10, v11, v12, rfl, hb, hw.of_block (hW Bx (by omega))⟩
  case hassign =>
    intro pre x W K hi hz hK
    obtain ⟨seq, last, text⟩ := x
    unfold Sh.val at *
    gi_wp2
    exact hK _ _ (KeptX.alloc _ _ _) ⟨W.heap.size, _, _, _, _, _, _, _, rfl, hz, Whole.new W _ _⟩
  case hbody =>
    rintro pre x a' W hz hi ⟨Bx, v3, v6, v8, v9, v10, v11, v12, rfl, hbx, wX⟩ hpre
    obtain ⟨⟨v, hv, hown⟩, hkp⟩ := hi
    obtain ⟨A, c, rfl⟩ := owns_slice hown
    have hsz' := HSz.out
    have hlen : pre.length + 1 ≤ 3001 := by
      have h1 := hpre.length_le
      rw [cutL_len, List.length_append, List.length_singleton] at h1
      have h2 : cutQ text ≤ 3000 := by unfold cutQ; omega
      omega
    obtain ⟨seq, last, tx⟩ := x
    unfold Sh.val
    have HO := hide hown
    have HV := hide hv
    have HKp := hide hkp
    have c0 := hv.cell 0
    have x0 := wX.cell 0
    have x1 := wX.cell 1
    have x2 := wX.cell 2
    unfold Sh.cells at x0 x1 x2
    simp only [List.getElem?_cons_zero, List.getElem?_cons_succ] at c0 x0 x1 x2
    have hb2 : Below W.heap.size W (W.alloc (.cells #[.int .u64 seq, .bool last, .string tx] 125)) := (Below.refl _ _).alloc (Nat.le_refl _) _
    have HB2 := hide hb2
    clear hown hv hkp hpre wX hb2
    have hne0 : ∀ g, (Value.slice A pre.length c).ownBlock = some g → w.heap.size ≠ g := fun g hg => by have := (HO.out.lt g hg).1; omega
    gi_wp2_with (gi_at_builtin; refine wpListIn_append_own _ rfl _ _ 259 rfl (w.heap.size + 3) 125 i0 (.agg #[.int .u64 0, .bool false, .string ByteArray.empty]) 3 32 Tryz.underlying259 hi hz0 hz1 hz2 rfl (by decide) _ _ _ rfl (HO.out.alloc _) ⟨W.heap.size, 0, none⟩ 1 1 [.int .u64 seq, .bool last, .string tx] rfl rfl ?c1 ?c2 ?c3 ?c4 ?c5 ?_)
    case c1 => exact fun j u hu => new_cells W _ _ j u hu
    case c2 => exact sh_one ⟨seq, last, tx⟩
    case c3 => unfold maxLen; omega
    case c4 => omega
    case c5 => simp; omega
    intro v2 w2 hown2 hg2 _
    obtain ⟨g2, cap2, rfl⟩ := ownsRow_succ hown2
    have hk2 := HB2.out
    have hv2 : Whole w2 w.heap.size 259 [.slice A pre.length c] := (HV.out.below HB2.out HV.out.lt).of_block (hg2.block _ (Nat.lt_of_lt_of_le HV.out.lt HB2.out.size) (fun e => hne0 _ e.symm rfl))
    have HV2 := hide hv2
    have HO2 := hide hown2
    have HG2 := hide hg2
    clear c0 hv2 hown2 hg2 hk2
    have c0 := HV2.out.cell 0
    have f0 := HV2.out.frozen 0
    simp only [List.getElem?_cons_zero] at c0
    gi_wp2
    have hkx : KeptX (fun k => k = w.heap.size ∨ w.heap.size + 3 ≤ k) W w2 := ((KeptX.of_below HB2.out).trans ⟨(Below.refl 0 _).grown HG2.out (Nat.zero_le _) (fun _ _ => Nat.zero_le _), fun k hk hn => HG2.out.block k hk (fun e => hn (.inr (HO.out.lt k e.symm).1))⟩)
    have hkf := hkx.trans (KeptX.setCell (fun k => k = w.heap.size ∨ w.heap.size + 3 ≤ k) w2 ⟨w.heap.size, 0, none⟩ (.slice (some ⟨g2, 0, none⟩) (pre.length + 1) cap2) (.inl rfl))
    refine ⟨hkf, ⟨⟨_, HV2.out.set_ 0 _, ?_⟩, HKp.out.trans hkf.kp (fun k hk => .inr (by omega))⟩⟩
    rw [shs_snoc, List.length_append, List.length_singleton]
    exact owns_block HO2.out fun g hg => Below.heap_setCell _ _ _ _ (fun e => by have := (HO2.out.lt g hg).1; simp only at e; omega)
  case hdone =>
    intro W hz hi hD
    obtain ⟨⟨v, hv, hown⟩, hkp⟩ := hi
    obtain ⟨A, c, rfl⟩ := owns_slice hown
    have hsz' := HSz.out
    have HO := hide hown
    have HKp := hide hkp
    have c0 := hv.cell 0
    simp only [List.getElem?_cons_zero] at c0
    have HDf := hide hD
    clear hown hkp hv hD
    try dsimp only
    simp only [Exit.inBlock, Exit.then]
    go_wp2
    refine leave_marks [wp.heap.size] W (B := wp.heap.size) ⟨by simp, by simp, fun D hD => by rw [List.mem_singleton] at hD; subst hD; exact HDf.out⟩ (by omega) fun w' hb' hb2 => ⟨_, results_tmp rfl _ _ _, ?_⟩
    refine ⟨_, rfl, owns_base (owns_block HO.out fun g hg => hb2 g (by rw [List.mem_singleton]; have := (HO.out.lt g hg).1; omega)) (fun g hg => by have := (HO.out.lt g hg).1; omega), ?_⟩
    exact HKp.out.trans (Kp.mono (F := fun k => k = wp.heap.size) ⟨hb'.os, hb'.tape, hb'.output, hb'.size, fun k hk hn => hb2 k (by rw [List.mem_singleton]; exact hn)⟩ (fun k hk => .inl hk)) (fun k hk => .inr (by omega))
set_option maxHeartbeats 400000 in
theorem collect_any (Bt Bs : Nat) (s0 : Int) (text : ByteArray) (w : World) (hne : Bt ≠ Bs) (ct : Whole w Bt 9 [.string text]) (cs : Whole w Bs 66 [.int .u64 s0]) (hs0 : 0 ≤ s0) (hs1 : s0 < 9223372036854775808) (hsz : text.size ≤ 1000000) :
    Calls Tryz.prog 198 #[.func (.func 223) #[] #[.pointer (some ⟨Bt, 0, none⟩), .pointer (some ⟨Bs, 0, none⟩)]] w (ColRes Bt Bs (cutL s0 text) w) := by
  have HA := hide (appendSeq_any Bt Bs s0 text w hne ct cs hs0 hs1 hsz)
  clear ct cs
  go_enter Tryz.func198, Tryz.ntmps198
  go_wp2_with fail
  refine HA.out.mono ?_
  rintro e w1 hr
  have HR := hide hr
  obtain ⟨v, rfl, _, _⟩ := hr
  go_wp2_with fail
  go_ret
  exact HR.out
/-- behind Cut -/
def CutRes (l : List Sh) (w : World) (e : Ending) (w' : World) : Prop := ∃ v, e = .returned v ∧ w'.ownsRow w.heap.size 125 3 v l.length (shs l) ∧ Below w.heap.size w w'
set_option maxHeartbeats 400000 in
theorem scut_any (s0 : Int) (text : ByteArray) (w : World) : Calls Tryz.prog 199 #[.int .u64 s0, .string text] w fun e w' => ∃ Bt Bs, e = .returned (.func (.func 223) #[] #[.pointer (some ⟨Bt, 0, none⟩), .pointer (some ⟨Bs, 0, none⟩)]) ∧ Bt ≠ Bs ∧ w.heap.size ≤ Bt ∧ w.heap.size ≤ Bs ∧ Whole w' Bt 9 [.string text] ∧ Whole w' Bs 66 [.int .u64 s0] ∧ Below w.heap.size w w' := by
  have h1 := Whole.new w [.int .u64 s0] 66
  have b1 : Below w.heap.size w (w.alloc (.cells #[.int .u64 s0] 66)) := (Below.refl _ _).alloc (Nat.le_refl _) _
  have hz1 : (w.alloc (.cells #[.int .u64 s0] 66)).heap.size = w.heap.size + 1 := by simp
  change Whole (w.alloc (.cells #[.int .u64 s0] 66)) _ _ _ at h1
  have H1 := hide h1
  have HB1 := hide b1
  have HZ := hide hz1
  clear h1 b1 hz1
  go_enter Tryz.func199, Tryz.ntmps199
  go_wp2_with fail
  generalize w.alloc (.cells #[.int .u64 s0] 66) = w1 at *
  go_ret
  have hz := HZ.out
  have h2 := Whole.new w1 [.string text] 9
  have b2 : Below w1.heap.size w1 (w1.alloc (.cells #[.string text] 9)) := (Below.refl _ _).alloc (Nat.le_refl _) _
  refine ⟨w.heap.size + 1, w.heap.size, rfl, by omega, by omega, by omega, ?_, H1.out.below b2 (by omega), HB1.out.trans (b2.mono (by omega))⟩
  rw [hz] at h2
  exact h2
set_option maxHeartbeats 400000 in
theorem Cut_any (s0 : Int) (text : ByteArray) (w : World) (hs0 : 0 ≤ s0) (hs1 : s0 < 9223372036854775808) (hsz : text.size ≤ 1000000) :
    Calls Tryz.prog 168 #[.int .u64 s0, .string text] w (CutRes (cutL s0 text) w) := by
  have HSc := hide (scut_any s0 text w)
  go_enter Tryz.func168, Tryz.ntmps168
  go_wp2_with fail
  refine HSc.out.mono ?_
  rintro e w1 ⟨Bt, Bs, rfl, hne, hl1, hl2, h1, h2, hb⟩
  have HC := hide (collect_any Bt Bs s0 text w1 hne h1 h2 hs0 hs1 hsz)
  have HB := hide hb
  clear hb h1 h2
  go_wp2_with fail
  refine HC.out.mono ?_
  rintro e w2 ⟨v, rfl, ho, hk⟩
  have HO := hide ho
  have HK := hide hk
  clear ho hk
  go_wp2_with fail
  go_ret
  have hsz := HB.out.size
  exact ⟨v, rfl, owns_base HO.out (fun g hg => by have := (HO.out.lt g hg).1; omega), HB.out.trans (HK.out.below hsz (fun i hi => by unfold TwoF at hi; omega))⟩
end Go.Proofs.YtnnfiicmplkakaaGreatDoor
namespace Go.Proofs.YtnnfiicmplkakaaGreatDoor
open Go.RowKit Go.Shelf

def placeN (seq : Int) (sec : Nat) : Nat := 2 + (seq % (sec : Int)).toNat
/-- the sectors behind so many sheets -/
def putShs (c : Nat → List Int) (sec : Nat) (l : List Sh) : Nat → List Int := l.foldl (fun c s => upd c (placeN s.seq sec) s.bytes) c
theorem putShs_snoc (c : Nat → List Int) (sec : Nat) (l : List Sh) (s : Sh) : putShs c sec (l ++ [s]) = upd (putShs c sec l) (placeN s.seq sec) s.bytes := by simp [putShs]
theorem need_cut (text : ByteArray) : needN text.size = (cutL 0 text).length := by rw [cutL_len]; unfold needN cutQ; omega
theorem need_q (text : ByteArray) : needN text.size = cutQ text + 1 := by rw [need_cut, cutL_len]
theorem need_cut' (s0 : Int) (text : ByteArray) : (cutL s0 text).length = needN text.size := by rw [need_cut, cutL_len, cutL_len]
theorem place2_any (seq : Int) (sec : Nat) (w : World) (h0 : 0 ≤ seq) (h1 : seq < 18446744073709551616) (hs : 1 ≤ sec) (hs2 : sec < 65536) : Calls Tryz.prog 58 #[.int .u64 seq, .int .i64 sec] w fun e w' => e = .returned (.int .i64 (placeN seq sec : Nat)) ∧ w = w' := by
  refine (place_any seq sec w h0 h1 hs hs2).mono fun e w' hh => ⟨?_, hh.2⟩
  rw [hh.1]
  have := Int.emod_nonneg seq (show (sec : Int) ≠ 0 by omega)
  unfold placeN
  congr 2
  omega
theorem cutS_good (s0 : Int) (text : ByteArray) (k : Nat) (h0 : 0 ≤ s0) (h1 : s0 + k < 9223372036854775808) (hk : k ≤ cutQ text) : (cutS s0 text k).good ∧ (cutS s0 text k).seq = s0 + k := by
  have hq : cutQ text = (text.size - 1) / 497 := rfl
  unfold cutS
  split
  · refine ⟨⟨⟨by show 0 ≤ s0 + k; omega, by show s0 + k < _; omega⟩, ?_⟩, rfl⟩
    show (text.extract (497 * k) (497 * k + 497)).size ≤ 497
    rw [ByteArray.size_extract]
    omega
  · refine ⟨⟨⟨by show 0 ≤ s0 + k; omega, by show s0 + k < _; omega⟩, ?_⟩, rfl⟩
    show (restT text k).size ≤ 497
    rw [restT_size]
    omega
theorem placeN_lt (seq : Int) (sec n : Nat) (hs : 1 ≤ sec) (hn : 2 + sec ≤ n) : placeN seq sec < n := by
  have h1 := Int.emod_nonneg seq (show (sec : Int) ≠ 0 by omega)
  have h2 := Int.emod_lt_of_pos seq (show (0 : Int) < sec by omega)
  unfold placeN
  omega
theorem owns_form {w : World} {base size n c : Nat} {e : TypeId} {A : Option Addr} {l : List Value} (h : w.ownsRow base e size (.slice A n c) n l) (hn : 0 < l.length) : ∃ g, A = some ⟨g, 0, none⟩ ∧ base ≤ g ∧ g < w.heap.size ∧ ∀ i (hi : i < l.length), w.cell? ⟨g, i, none⟩ = some l[i] := by
  obtain ⟨b, off, rfl, hb, hc⟩ := owns_mem h hn
  rcases h.2 with ⟨e, _⟩ | ⟨g, cap, cur, e, hge, _⟩
  · cases e
  · cases e
    exact ⟨_, rfl, hge, hb, fun i hi => by have := hc i hi; rwa [Nat.zero_add] at this⟩
/-- while the sheets are written; W1: the world behind Cut -/
structure CmSt (W1 wr : World) (bd n : Nat) (F : Nat → Prop) (c : Nat → List Int) (m k : Nat) : Prop where
  ex : ∃ Fk, Ds wr bd n Fk c (m + k) ∧ (∀ j, Fk j → F j ∨ W1.heap.size ≤ j)
  kp : Kp F W1 wr
set_option maxHeartbeats 4000000 in
set_option maxRecDepth 20000 in
theorem commitFn_any (bl bd n : Nat) (F : Nat → Prop) (c : Nat → List Int) (m : Nat) (h : Hd) (at_ next used : Int) (text : ByteArray) (bn bx bt : Nat) (W : World) (hl : LD W bl bd n F c m h at_ next used)
    (hbn : W.cell? ⟨bn, 0, none⟩ = some (.int .i64 (needN text.size : Nat))) (hbx : W.cell? ⟨bx, 0, none⟩ = some (.pointer (some ⟨bl, 0, none⟩))) (hbt : W.cell? ⟨bt, 0, none⟩ = some (.string text))
    (hnF : ¬ F bn ∧ ¬ F bx ∧ ¬ F bt) (hnl : bn ≠ bl ∧ bx ≠ bl ∧ bt ≠ bl)
    (hm : m + needN text.size ≤ 90000) (hs1 : 1 ≤ h.sec) (hs : h.sec < 60000) (hn : 2 + h.sec ≤ n) (hu0 : 0 ≤ used) (hu : used + needN text.size ≤ h.sec) (hx0 : 0 ≤ next) (hx1 : next < 4611686018427387904) (hsz : text.size ≤ 1000000) (ht : Tab W) (hF1 : ¬ F 0) :
    Calls Tryz.prog 167 #[.pointer (some ⟨bn, 0, none⟩), .pointer (some ⟨bx, 0, none⟩), .pointer (some ⟨bt, 0, none⟩)] W (LDRes bl bd n F (putShs c h.sec (cutL next text)) 0 h at_ (next + needN text.size) (used + needN text.size) W) := by
  have HL := hide hl
  have HT := hide ht
  have l1 := World.block_lt_of_cell? W _ (by rw [hbn])
  have l2 := World.block_lt_of_cell? W _ (by rw [hbx])
  have l3 := World.block_lt_of_cell? W _ (by rw [hbt])
  have l4 := hl.lt
  have hne1 : 1 ≤ needN text.size := by unfold needN; omega
  have hne2 : needN text.size ≤ 3000 := by unfold needN; omega
  have c3 : W.cell? ⟨bl, 3, none⟩ = some (.int .i64 (h.sec : Int)) := hl.lg.whole.cell 3
  have HLeft := fun w (hb : Below W.heap.size W w) => hide (lleft_any (hl.lg.below hb) hu0 (by omega) hs)
  have HCut := fun w => hide (Cut_any next text w hx0 (by omega) hsz)
  have HLen := hide (need_cut' next text)
  have HGood := hide (fun k (hk : k < needN text.size) => cutS_good next text k hx0 (by omega) (by rw [need_q] at hk; omega))
  have HK1 := hide (fun w (hb : Below W.heap.size W w) => (hb.cell (p := ⟨bn, 0, none⟩) l1).trans hbn)
  have HK2 := hide (fun w (hb : Below W.heap.size W w) => (hb.cell (p := ⟨bx, 0, none⟩) l2).trans hbx)
  have HK3 := hide (fun w (hb : Below W.heap.size W w) => (hb.cell (p := ⟨bt, 0, none⟩) l3).trans hbt)
  have d1 : decide ((h.sec : Int) < (needN text.size : Nat)) = false := by simp; omega
  have d2 : decide ((h.sec : Int) - used < (needN text.size : Nat)) = false := by simp; omega
  have HNe := hide (show needN text.size = max 1 ((text.size + 496) / 497) from rfl)
  clear hl ht
  generalize hnd : needN text.size = nd at *
  have HNd := hide hnd
  clear hnd
  go_enter Tryz.func167, Tryz.ntmps167
  go_upto_region 1 with fail
  go_quiet (fail)
  have HB1 := hide (below_drewN (Below.refl W.heap.size W) nq)
  clear hbn hbx hbt c3
  generalize W.drewN nq = w1 at *
  have k1 := HK1.out w1 HB1.out
  have k2 := HK2.out w1 HB1.out
  go_upto_region 3 with fail
  go_quiet (first | (go_at_call 111; refine Calls.quiet_of_same ((HLeft _ (below_drewN HB1.out _)).out.mono fun _ _ h => ⟨h.1, h.2.symm⟩)))
  have HB2 := hide (below_drewN HB1.out nq)
  clear k1 k2
  generalize w1.drewN nq = w2 at *
  go_upto_region 5 with fail
  refine wp_region_held_drew (S := (fun w' => Below W.heap.size W w')) (by kernel_rfl) (HB2.out.drew) (fun hHeld => ?_)
  generalize w2.drew = wd at *
  refine wpAnyH_take (i := 0) (v := ?vaq1) rfl (by kernel_rfl) (by kernel_rfl) (by kernel_rfl) (fun _ _ _ h => h) (Or.inl ⟨by rfl, ?haq1⟩) (by assumption) ?raq1
  case haq1 => (intro wq hSw; have z2 := HK2.out _ hSw; have z3 := HK3.out _ hSw; have hX := (HL.out.below hSw).lg.whole; have e6 := hX.cell 6; simp only [List.getElem?_cons_zero, List.getElem?_cons_succ] at e6; go_simp; (try with_reducible rfl))
  try simp only [Act.put, List.getElem_toArray, List.getElem_cons_zero, List.setIfInBounds_toArray, List.set_cons_zero, List.set_cons_succ]
  refine wpAnyH_take (i := 1) (v := ?vaq2) rfl (by kernel_rfl) (by kernel_rfl) (by kernel_rfl) (fun _ _ _ h => h) (Or.inl ⟨by rfl, ?haq2⟩) (by assumption) ?raq2
  case haq2 => (intro wq hSw; go_simp; (try with_reducible rfl))
  try simp only [Act.put, List.getElem_toArray, List.getElem_cons_zero, List.getElem_cons_succ, List.setIfInBounds_toArray, List.set_cons_zero, List.set_cons_succ]
  refine wpAnyH_take (i := 2) (v := ?vaq3) rfl (by kernel_rfl) (by kernel_rfl) (by kernel_rfl) (fun _ _ _ h => h) (Or.inl ⟨by rfl, ?haq3⟩) (by assumption) ?raq3
  case haq3 => (intro wq hSw; go_simp; (try with_reducible rfl))
  try simp only [Act.put, List.getElem_toArray, List.getElem_cons_zero, List.getElem_cons_succ, List.setIfInBounds_toArray, List.set_cons_zero, List.set_cons_succ]
  refine wpAnyH_take (i := 3) (v := ?vaq4) rfl (by kernel_rfl) (by kernel_rfl) (by kernel_rfl) (fun _ _ _ h => h) (Or.inl ⟨by rfl, ?haq4⟩) (by assumption) ?raq4
  case haq4 => (intro wq hSw; have z2 := HK2.out _ hSw; have z3 := HK3.out _ hSw; have hX := (HL.out.below hSw).lg.whole; have e6 := hX.cell 6; simp only [List.getElem?_cons_zero, List.getElem?_cons_succ] at e6; go_simp; (try with_reducible rfl))
  try simp only [Act.put, List.getElem_toArray, List.getElem_cons_zero, List.getElem_cons_succ, List.setIfInBounds_toArray, List.set_cons_zero, List.set_cons_succ]
  refine wpAnyH_take (i := 4) (v := ?vaq5) rfl (by kernel_rfl) (by kernel_rfl) (by kernel_rfl) (fun _ _ _ h => h) (Or.inl ⟨by rfl, ?haq5⟩) (by assumption) ?raq5
  case haq5 => (intro wq hSw; have z2 := HK2.out _ hSw; have z3 := HK3.out _ hSw; have hX := (HL.out.below hSw).lg.whole; have e6 := hX.cell 6; simp only [List.getElem?_cons_zero, List.getElem?_cons_succ] at e6; go_simp; (try with_reducible rfl))
  try simp only [Act.put, List.getElem_toArray, List.getElem_cons_zero, List.getElem_cons_succ, List.setIfInBounds_toArray, List.set_cons_zero, List.set_cons_succ]
  refine wpAnyH_take (i := 7) (v := ?vaq6) rfl (by kernel_rfl) (by kernel_rfl) (by kernel_rfl) (fun _ _ _ h => h) (Or.inl ⟨by rfl, ?haq6⟩) (by assumption) ?raq6
  case haq6 => (intro wq hSw; go_simp; (try with_reducible rfl))
  try simp only [Act.put, List.getElem_toArray, List.getElem_cons_zero, List.getElem_cons_succ, List.setIfInBounds_toArray, List.set_cons_zero, List.set_cons_succ]
  refine wpAnyH_ready (rs := [5]) (by kernel_rfl) (by simp) ?_
  refine AllReadyH.cons (o := _) rfl (fun K hK => ?_) ?_
  · skip
    go_simp
    refine (HCut wd).out.mono ?_
    rintro e w3 ⟨v, rfl, ho, hb⟩
    obtain ⟨A, cc, rfl⟩ := owns_slice ho
    rw [HLen.out] at ho
    have HO := hide ho
    have HB3 := hide (hHeld.trans (hb.mono hHeld.size))
    have hwd := hHeld.size
    rw [HLen.out]
    refine hK.out _ _ (HB3.out) (fun hHeld => ?_)
    clear hK K hb ho
    try simp only [Act.put, List.getElem_toArray, List.getElem_cons_zero, List.getElem_cons_succ, List.setIfInBounds_toArray, List.set_cons_zero, List.set_cons_succ]
    refine wpAnyH_take (i := 6) (v := ?vaq7) rfl (by kernel_rfl) (by kernel_rfl) (by kernel_rfl) (fun _ _ _ h => h) (Or.inl ⟨by rfl, ?haq7⟩) (by assumption) ?raq7
    case haq7 => (intro wq hSw; go_simp; (try with_reducible rfl))
    try simp only [Act.put, List.getElem_toArray, List.getElem_cons_zero, List.getElem_cons_succ, List.setIfInBounds_toArray, List.set_cons_zero, List.set_cons_succ]
    refine wpAnyH_done (by kernel_rfl) ?_ _
    have hF0 : ∀ j, F j → j < W.heap.size := fun j hj => HL.out.ds.lt hj
    have HS0 := hide (show CmSt w3 w3 bd n F (putShs c h.sec ((cutL next text).take 0)) m 0 from ⟨⟨F, HL.out.ds.below HB3.out, fun j hj => .inl hj⟩, Kp.refl _ _⟩)
    obtain ⟨g, rfl, hg0, hg1, hgc⟩ := owns_form HO.out (by rw [shs_len, HLen.out]; omega)
    have HGc := hide hgc
    have hwd2 := HB3.out.size
    have hgF : ¬ F g := fun hf => by have := hF0 g hf; omega
    have HTake := hide (show (cutL next text).take nd = cutL next text from List.take_of_length_le (by rw [HLen.out]; exact Nat.le_refl _))
    have HBx3 := hide (HK2.out w3 HB3.out)
    have HBn3 := hide (HK1.out w3 HB3.out)
    have HLg3 := hide (HL.out.lg.below HB3.out)
    have HT3 := hide (HT.out.below HB3.out)
    have HKW3 := hide (Kp.of_below (F := F) HB3.out)
    clear hgc HO HCut HB1 HB2 hHeld HK1 HK2 HK3 HLeft d1 d2
    go_wp2_with fail
    go_loopw [29] (fun x wr => ∃ k : Nat, k ≤ nd ∧ x = .int .i64 k ∧ CmSt w3 wr bd n F (putShs c h.sec ((cutL next text).take k)) m k) (fun x _ => nd - (intOf x).toNat)
    case atStart => exact ⟨0, Nat.zero_le _, rfl, HS0.out⟩
    case round =>
      obtain ⟨k, hk, rfl, ⟨⟨Fk, hds, hsub⟩, hkp⟩⟩ := hrel
      have HDk := hide hds
      have HSub := hide hsub
      have HKp := hide hkp
      have hszk := hkp.size
      clear hds hsub hkp
      by_cases hlt : k < nd
      · obtain ⟨hsg, hsq⟩ := HGood.out k hlt
        have hst : (cutL next text).take (k + 1) = (cutL next text).take k ++ [cutS next text k] := cutL_take next text k (by have := HLen.out; rw [cutL_len] at this; omega)
        have hstep : putShs c h.sec ((cutL next text).take (k + 1)) = upd (putShs c h.sec ((cutL next text).take k)) (placeN (cutS next text k).seq h.sec) (cutS next text k).bytes := by rw [hst, putShs_snoc]
        have hrow : ∀ i, i < 3 → wr.cell? ⟨g, k * 3 + i, none⟩ = (Sh.cells (cutS next text k))[i]? := fun i hi => by
          rw [HKp.out.cell (p := ⟨g, k * 3 + i, none⟩) hg1 hgF, HGc.out (k * 3 + i) (by rw [shs_len, HLen.out]; omega), ← List.getElem?_eq_getElem, shs_get? _ _ _ (by rw [HLen.out]; exact hlt) hi, cutL_get]
        clear hst
        generalize cutS next text k = s at *
        obtain ⟨seq, last, tx⟩ := s
        have r0 : wr.cell? ⟨g, k * 3, none⟩ = some (.int .u64 seq) := hrow 0 (by decide)
        have r1 : wr.cell? ⟨g, k * 3 + 1, none⟩ = some (.bool last) := hrow 1 (by decide)
        have r2 : wr.cell? ⟨g, k * 3 + 2, none⟩ = some (.string tx) := hrow 2 (by decide)
        have HSq := hide (show seq = next + k from hsq)
        have hsg2 : tx.size ≤ 497 := hsg.2
        have HStep := hide hstep
        have hb4 : Below wr.heap.size wr (wr.alloc (.cells #[.int .u64 seq, .bool last, .string tx] 125)) := (Below.refl _ _).alloc (Nat.le_refl _) _
        have hx4 := Whole.new wr [.int .u64 seq, .bool last, .string tx] 125
        change Whole (wr.alloc (.cells #[.int .u64 seq, .bool last, .string tx] 125)) _ _ _ at hx4
        have HB4 := hide hb4
        have HX4 := hide hx4
        have HKWk := hide (HKW3.out.same HKp.out)
        clear hb4 hx4 hrow hsg hsq hstep
        go_upto_region 8 with fail
        have hb7l : wr.heap.size ≤ wr.heap.size := Nat.le_refl _
        generalize wr.alloc (.cells #[.int .u64 seq, .bool last, .string tx] 125) = w4 at *
        generalize hb7 : wr.heap.size = b7 at *
        have HB7 := hide hb7
        clear hb7
        have hszk2 := HKp.out.size
        replace HB4 := hide (show Below wr.heap.size wr w4 by rw [HB7.out]; exact HB4.out)
        have y0 : w4.cell? ⟨b7, 0, none⟩ = some (.int .u64 seq) := HX4.out.cell 0
        have y1 : w4.cell? ⟨b7, 1, none⟩ = some (.bool last) := HX4.out.cell 1
        have y2 : w4.cell? ⟨b7, 2, none⟩ = some (.string tx) := HX4.out.cell 2
        go_wp2_with fail
        refine (sheetput_any seq last tx w4 (by have := HSq.out; omega) (by have := HSq.out; omega) hsg2 (HT3.out.kp HKp.out hF1 |>.below HB4.out)).mono ?_
        rintro e w7 ⟨A2, cc2, rfl, ho2, hbb⟩
        have HB47 := hide hbb
        have HM7 := hide (owns_mem ho2)
        have hsep : ∀ b off, A2 = some ⟨b, off, none⟩ → ¬ Fk b := fun b off e hf => by
          subst e
          have h1 := HDk.out.lt hf
          rcases ho2.2 with ⟨e, _⟩ | ⟨g', cap, cur, e, hge, _⟩
          · cases e
          · cases e
            have := HB4.out.size
            omega
        have HSep := hide hsep
        have HB7w := hide (HB4.out.trans (hbb.mono HB4.out.size))
        have HD7 := hide (HDk.out.below HB7w.out)
        have HX7 := hide (HX4.out.below hbb HX4.out.lt)
        have hn7 : ¬ Fk b7 := fun hf => by have h1 := HDk.out.lt hf; have h2 := HB7.out; omega
        have nx : ¬ Fk bx := fun hf => by have h1 := HB3.out.size; exact (HSub.out _ hf).elim hnF.2.1 (fun h => by omega)
        have nl : ¬ Fk bl := fun hf => by have h1 := HB3.out.size; exact (HSub.out _ hf).elim HL.out.ne (fun h => by omega)
        have hbx3 : bx < w3.heap.size := by have := HB3.out.size; omega
        have hbl3 : bl < w3.heap.size := by have := HB3.out.size; omega
        have q2 : bx < w7.heap.size := by have := HB7w.out.size; omega
        have y2x : w7.cell? ⟨bx, 0, none⟩ = some (.pointer (some ⟨bl, 0, none⟩)) := (HB7w.out.cell (p := ⟨bx, 0, none⟩) (by show bx < wr.heap.size; omega)).trans ((HKp.out.cell (p := ⟨bx, 0, none⟩) hbx3 hnF.2.1).trans HBx3.out)
        have HY2 := hide y2x
        have HLg := hide ((HLg3.out.kp HKp.out HL.out.ne).below HB7w.out)
        have HPl := fun w => hide (place2_any seq h.sec w (by have := HSq.out; omega) (by have := HSq.out; omega) hs1 (by omega))
        have hbl := sheetB_len seq last tx hsg2
        have HBl := hide hbl
        have HBy := hide (sheetB_byt seq last tx)
        have HPL := hide (placeN_lt seq h.sec n hs1 hn)
        have hKpt := hide (fun w' (hk : Kp Fk w7 w') => HKp.out.trans ((Kp.of_below (F := Fk) HB7w.out).same hk) (fun i hi => HSub.out i hi))
        have hsz7 := HB7w.out.size
        clear ho2 hbb hsep y0 y1 y2 y2x hbl r0 r1 r2 HX4 HB4 HB47
        go_upto_region 10 with fail
        refine wp_region_held_drew (S := (fun w' => Kp Fk w7 w')) (by kernel_rfl) ((Kp.refl _ _).drew) (fun hHeld => ?_)
        have HWr := hide ((HD7.out.below (Below.refl w7.heap.size w7).drew).write (by omega) HPL.out A2 cc2 _ (HM7.out.below (Below.refl w7.heap.size w7).drew) HBl.out HBy.out HSep.out)
        generalize w7.drew = wd at *
        refine wpAnyH_take (i := 0) (v := ?vbq1) rfl (by kernel_rfl) (by kernel_rfl) (by kernel_rfl) (fun _ _ _ h => h) (Or.inl ⟨by rfl, ?hbq1⟩) (by assumption) ?rbq1
        case hbq1 => (intro wq hSw; have hY := HX7.out.kp hSw hn7; have z0 := hY.cell 0; have hB := (hSw.cell (p := ⟨bx, 0, none⟩) q2 nx).trans HY2.out; have hX := HLg.out.kp hSw nl; have e0 := hX.whole.cell 0; have e3 := hX.whole.cell 3; simp only [List.getElem?_cons_zero, List.getElem?_cons_succ] at z0 e0 e3; go_simp; (try with_reducible rfl))
        try simp only [Act.put, List.getElem_toArray, List.getElem_cons_zero, List.setIfInBounds_toArray, List.set_cons_zero, List.set_cons_succ]
        refine wpAnyH_take (i := 1) (v := ?vbq2) rfl (by kernel_rfl) (by kernel_rfl) (by kernel_rfl) (fun _ _ _ h => h) (Or.inl ⟨by rfl, ?hbq2⟩) (by assumption) ?rbq2
        case hbq2 => (intro wq hSw; go_simp; (try with_reducible rfl))
        try simp only [Act.put, List.getElem_toArray, List.getElem_cons_zero, List.getElem_cons_succ, List.setIfInBounds_toArray, List.set_cons_zero, List.set_cons_succ]
        refine wpAnyH_take (i := 2) (v := ?vbq3) rfl (by kernel_rfl) (by kernel_rfl) (by kernel_rfl) (fun _ _ _ h => h) (Or.inl ⟨by rfl, ?hbq3⟩) (by assumption) ?rbq3
        case hbq3 => (intro wq hSw; go_simp; (try with_reducible rfl))
        try simp only [Act.put, List.getElem_toArray, List.getElem_cons_zero, List.getElem_cons_succ, List.setIfInBounds_toArray, List.set_cons_zero, List.set_cons_succ]
        refine wpAnyH_take (i := 3) (v := ?vbq4) rfl (by kernel_rfl) (by kernel_rfl) (by kernel_rfl) (fun _ _ _ h => h) (Or.inl ⟨by rfl, ?hbq4⟩) (by assumption) ?rbq4
        case hbq4 => (intro wq hSw; have hY := HX7.out.kp hSw hn7; have z0 := hY.cell 0; have hB := (hSw.cell (p := ⟨bx, 0, none⟩) q2 nx).trans HY2.out; have hX := HLg.out.kp hSw nl; have e0 := hX.whole.cell 0; have e3 := hX.whole.cell 3; simp only [List.getElem?_cons_zero, List.getElem?_cons_succ] at z0 e0 e3; go_simp; (try with_reducible rfl))
        try simp only [Act.put, List.getElem_toArray, List.getElem_cons_zero, List.getElem_cons_succ, List.setIfInBounds_toArray, List.set_cons_zero, List.set_cons_succ]
        refine wpAnyH_take (i := 4) (v := ?vbq5) rfl (by kernel_rfl) (by kernel_rfl) (by kernel_rfl) (fun _ _ _ h => h) (Or.inl ⟨by rfl, ?hbq5⟩) (by assumption) ?rbq5
        case hbq5 => (intro wq hSw; go_simp; (try with_reducible rfl))
        try simp only [Act.put, List.getElem_toArray, List.getElem_cons_zero, List.getElem_cons_succ, List.setIfInBounds_toArray, List.set_cons_zero, List.set_cons_succ]
        refine wpAnyH_take (i := 5) (v := ?vbq6) rfl (by kernel_rfl) (by kernel_rfl) (by kernel_rfl) (fun _ _ _ h => h) (Or.inl ⟨by rfl, ?hbq6⟩) (by assumption) ?rbq6
        case hbq6 => (intro wq hSw; have hY := HX7.out.kp hSw hn7; have z0 := hY.cell 0; have hB := (hSw.cell (p := ⟨bx, 0, none⟩) q2 nx).trans HY2.out; have hX := HLg.out.kp hSw nl; have e0 := hX.whole.cell 0; have e3 := hX.whole.cell 3; simp only [List.getElem?_cons_zero, List.getElem?_cons_succ] at z0 e0 e3; go_simp; (try with_reducible rfl))
        try simp only [Act.put, List.getElem_toArray, List.getElem_cons_zero, List.getElem_cons_succ, List.setIfInBounds_toArray, List.set_cons_zero, List.set_cons_succ]
        refine wpAnyH_take (i := 6) (v := ?vbq7) rfl (by kernel_rfl) (by kernel_rfl) (by kernel_rfl) (fun _ _ _ h => h) (Or.inl ⟨by rfl, ?hbq7⟩) (by assumption) ?rbq7
        case hbq7 => (intro wq hSw; have hY := HX7.out.kp hSw hn7; have z0 := hY.cell 0; have hB := (hSw.cell (p := ⟨bx, 0, none⟩) q2 nx).trans HY2.out; have hX := HLg.out.kp hSw nl; have e0 := hX.whole.cell 0; have e3 := hX.whole.cell 3; simp only [List.getElem?_cons_zero, List.getElem?_cons_succ] at z0 e0 e3; go_simp; (try with_reducible rfl))
        try simp only [Act.put, List.getElem_toArray, List.getElem_cons_zero, List.getElem_cons_succ, List.setIfInBounds_toArray, List.set_cons_zero, List.set_cons_succ]
        refine wpAnyH_take (i := 7) (v := ?vbq8) rfl (by kernel_rfl) (by kernel_rfl) (by kernel_rfl) (fun _ _ _ h => h) (Or.inl ⟨by rfl, ?hbq8⟩) (by assumption) ?rbq8
        case hbq8 => (intro wq hSw; go_simp; (try with_reducible rfl))
        try simp only [Act.put, List.getElem_toArray, List.getElem_cons_zero, List.getElem_cons_succ, List.setIfInBounds_toArray, List.set_cons_zero, List.set_cons_succ]
        refine wpAnyH_take (i := 8) (v := ?vbq9) rfl (by kernel_rfl) (by kernel_rfl) (by kernel_rfl) (fun _ _ _ h => h) (Or.inl ⟨by rfl, ?hbq9⟩) (by assumption) ?rbq9
        case hbq9 => (intro wq hSw; go_simp; (try with_reducible rfl))
        try simp only [Act.put, List.getElem_toArray, List.getElem_cons_zero, List.getElem_cons_succ, List.setIfInBounds_toArray, List.set_cons_zero, List.set_cons_succ]
        refine wpAnyH_take (i := 9) (v := ?vbq10) rfl (by kernel_rfl) (by kernel_rfl) (by kernel_rfl) (fun _ _ _ h => h) (Or.inl ⟨by rfl, ?hbq10⟩) (by assumption) ?rbq10
        case hbq10 => (intro wq hSw; go_simp; (try with_reducible rfl))
        try simp only [Act.put, List.getElem_toArray, List.getElem_cons_zero, List.getElem_cons_succ, List.setIfInBounds_toArray, List.set_cons_zero, List.set_cons_succ]
        refine wpAnyH_take (i := 10) (v := ?vbq11) rfl (by kernel_rfl) (by kernel_rfl) (by kernel_rfl) (fun _ _ _ h => h) (Or.inl ⟨by rfl, ?hbq11⟩) (by assumption) ?rbq11
        case hbq11 => (intro wq hSw; have hY := HX7.out.kp hSw hn7; have z0 := hY.cell 0; have hB := (hSw.cell (p := ⟨bx, 0, none⟩) q2 nx).trans HY2.out; have hX := HLg.out.kp hSw nl; have e0 := hX.whole.cell 0; have e3 := hX.whole.cell 3; simp only [List.getElem?_cons_zero, List.getElem?_cons_succ] at z0 e0 e3; go_simp; (try with_reducible rfl))
        try simp only [Act.put, List.getElem_toArray, List.getElem_cons_zero, List.getElem_cons_succ, List.setIfInBounds_toArray, List.set_cons_zero, List.set_cons_succ]
        refine wpAnyH_take (i := 12) (v := ?vbq12) rfl (by kernel_rfl) (by kernel_rfl) (by kernel_rfl) (fun _ _ _ h => h) (Or.inl ⟨by rfl, ?hbq12⟩) (by assumption) ?rbq12
        case hbq12 => (intro wq hSw; go_simp; (try with_reducible rfl))
        try simp only [Act.put, List.getElem_toArray, List.getElem_cons_zero, List.getElem_cons_succ, List.setIfInBounds_toArray, List.set_cons_zero, List.set_cons_succ]
        refine wpAnyH_ready (rs := [11]) (by kernel_rfl) (by simp) ?_
        refine AllReadyH.cons (o := _) rfl (fun K hK => ?_) ?_
        · skip
          go_simp
          refine (HPl wd).out.mono ?_
          rintro e wo ⟨rfl, rfl⟩
          refine hK.out _ _ (hHeld) (fun hHeld => ?_)
          clear hK K 
          try simp only [Act.put, List.getElem_toArray, List.getElem_cons_zero, List.getElem_cons_succ, List.setIfInBounds_toArray, List.set_cons_zero, List.set_cons_succ]
          refine wpAnyH_ready (rs := [13]) (by kernel_rfl) (by simp) ?_
          refine AllReadyH.cons (o := _) rfl (fun K hK => ?_) ?_
          · skip
            go_simp
            refine HWr.out.mono ?_
            rintro e w8 ⟨rfl, F', g1, g2, g3⟩
            have HD8 := hide g1
            have HK8 := hide (hHeld.same g2)
            have HF8 := hide (show ∀ j, F' j → Fk j ∨ w7.heap.size ≤ j from fun j hj => (g3 j hj).imp id (fun h => Nat.le_trans hHeld.size h))
            clear g1 g2 g3
            refine hK.out _ _ (HK8.out) (fun hHeld => ?_)
            clear hK K 
            try simp only [Act.put, List.getElem_toArray, List.getElem_cons_zero, List.getElem_cons_succ, List.setIfInBounds_toArray, List.set_cons_zero, List.set_cons_succ]
            refine wpAnyH_take (i := 14) (v := ?vbq13) rfl (by kernel_rfl) (by kernel_rfl) (by kernel_rfl) (fun _ _ _ h => h) (Or.inl ⟨by rfl, ?hbq13⟩) (by assumption) ?rbq13
            case hbq13 => (intro wq hSw; go_simp; (try with_reducible rfl))
            try simp only [Act.put, List.getElem_toArray, List.getElem_cons_zero, List.getElem_cons_succ, List.setIfInBounds_toArray, List.set_cons_zero, List.set_cons_succ]
            refine wpAnyH_done (by kernel_rfl) ?_ _
            have HNext := hide (show CmSt w3 w8 bd n F (putShs c h.sec ((cutL next text).take (k + 1))) m (k + 1) from ⟨⟨F', by rw [HStep.out]; exact HD8.out, fun j hj => (HF8.out j hj).elim (HSub.out j) (fun h => .inr (by omega))⟩, hKpt.out w8 HK8.out⟩)
            clear HD8 HK8 HF8 hHeld
            go_wp2_with fail
            go_roundw
            case rel => exact ⟨k + 1, by omega, by go_num, HNext.out⟩
            case measure => simp [intOf]; omega
          exact AllReadyH.nil
        exact AllReadyH.nil
      · have hk' : k = nd := by omega
        subst hk'
        have HDe := hide (show Ds wr bd n Fk (putShs c h.sec (cutL next text)) (m + k) from by have := HDk.out; rw [HTake.out] at this; exact this)
        have nx : ¬ Fk bx := fun hf => by have h1 := HB3.out.size; exact (HSub.out _ hf).elim hnF.2.1 (fun h => by omega)
        have nn : ¬ Fk bn := fun hf => by have h1 := HB3.out.size; exact (HSub.out _ hf).elim hnF.1 (fun h => by omega)
        have nl : ¬ Fk bl := fun hf => by have h1 := HB3.out.size; exact (HSub.out _ hf).elim HL.out.ne (fun h => by omega)
        have hbx3 : bx < w3.heap.size := by have := HB3.out.size; omega
        have hbn3 : bn < w3.heap.size := by have := HB3.out.size; omega
        have HLg := hide (HLg3.out.kp HKp.out HL.out.ne)
        have y0 : wr.cell? ⟨bx, 0, none⟩ = some (.pointer (some ⟨bl, 0, none⟩)) := (HKp.out.cell (p := ⟨bx, 0, none⟩) hbx3 hnF.2.1).trans HBx3.out
        have y1 : wr.cell? ⟨bn, 0, none⟩ = some (.int .i64 (k : Int)) := (HKp.out.cell (p := ⟨bn, 0, none⟩) hbn3 hnF.1).trans HBn3.out
        have e0 : wr.cell? ⟨bl, 0, none⟩ = some (.pointer (some ⟨bd, 0, none⟩)) := HLg.out.whole.cell 0
        have Y0 := hide y0
        have Y1 := hide y1
        clear y1
        go_wp2_with fail
        refine (HDe.out.flush (by omega)).mono ?_
        rintro e w9 ⟨rfl, F9, g1, g2, g3⟩
        have hbxr : bx < wr.heap.size := by omega
        have hbnr : bn < wr.heap.size := by omega
        have HL9 := hide (HLg.out.kp g2 nl)
        have z0 : w9.cell? ⟨bx, 0, none⟩ = some (.pointer (some ⟨bl, 0, none⟩)) := (g2.cell (p := ⟨bx, 0, none⟩) hbxr nx).trans Y0.out
        have z1 : w9.cell? ⟨bn, 0, none⟩ = some (.int .i64 (k : Int)) := (g2.cell (p := ⟨bn, 0, none⟩) hbnr nn).trans Y1.out
        have HD9 := hide g1
        have HK9 := hide (HKp.out.trans g2 (fun i hi => HSub.out i hi))
        have HF9 := hide (show ∀ j, F9 j → F j ∨ w3.heap.size ≤ j from fun j hj => (g3 j hj).elim (HSub.out j) (fun h => .inr (Nat.le_trans hszk h)))
        have nl9 : ¬ F9 bl := fun hf => by have h1 := HB3.out.size; exact (HF9.out _ hf).elim HL.out.ne (fun h => by omega)
        have Z0 := hide z0
        have Z1 := hide z1
        clear y0 e0 g1 g2 g3
        have e6 : w9.cell? ⟨bl, 6, none⟩ = some (.int .u64 next) := HL9.out.whole.cell 6
        have f6 := HL9.out.whole.frozen 6
        have hw1 : IntKind.u64.wrap (k : Int) = (k : Int) := by rw [IntKind.wrap_u64]; omega
        have hw2 : IntKind.u64.wrap (next + (k : Int)) = next + (k : Int) := by rw [IntKind.wrap_u64]; omega
        go_upto_region 17 with fail
        go_still_tail 9, (by kernel_rfl)
        change wpList _ _ _ _ _ w9.drew
        have HLd := hide (HL9.out.kp (F := NoF) ((Kp.refl NoF w9).drew) (fun h => h.elim))
        have HDd := hide (HD9.out.kp (G := NoF) ((Kp.refl NoF w9).drew) (fun _ _ h => h.elim))
        have HKd := hide ((HK9.out.mono (G := lF bl F) (fun i hi => .inl (.inr hi))).drew)
        have zd0 : w9.drew.cell? ⟨bx, 0, none⟩ = some (.pointer (some ⟨bl, 0, none⟩)) := Z0.out
        have zd1 : w9.drew.cell? ⟨bn, 0, none⟩ = some (.int .i64 (k : Int)) := Z1.out
        clear e6 f6 z0 z1
        generalize w9.drew = wd9 at *
        have e6 : wd9.cell? ⟨bl, 6, none⟩ = some (.int .u64 next) := HLd.out.whole.cell 6
        have f6 := HLd.out.whole.frozen 6
        go_upto_region 18 with fail
        have HLa := hide (show Lg (wd9.setCell ⟨bl, 6, none⟩ (.int .u64 (next + (k : Int)))) bl bd h at_ (next + (k : Int)) used from HLd.out.whole.set_ 6 (.int .u64 (next + (k : Int))))
        have hka : Kp (OnlyF bl) wd9 (wd9.setCell ⟨bl, 6, none⟩ (.int .u64 (next + (k : Int)))) := Kp.set_only _ _ _ _
        have hxb : bx < wd9.heap.size := cell_lt zd0
        have hnb : bn < wd9.heap.size := cell_lt zd1
        have za0 := (hka.cell (p := ⟨bx, 0, none⟩) hxb hnl.2.1).trans zd0
        have za1 := (hka.cell (p := ⟨bn, 0, none⟩) hnb hnl.1).trans zd1
        have HDa := hide (HDd.out.kp hka (fun j hf hg => nl9 (by cases hg; exact hf)))
        have HKa := hide (HKd.out.trans hka (G := OnlyF bl) (F := lF bl F) (fun j hj => .inl (.inl hj)))
        clear e6 f6 zd0 zd1 hka hxb hnb hw1 hw2
        generalize wd9.setCell ⟨bl, 6, none⟩ (.int .u64 (next + (k : Int))) = wa at *
        have e7 : wa.cell? ⟨bl, 7, none⟩ = some (.int .i64 used) := HLa.out.whole.cell 7
        have f7 := HLa.out.whole.frozen 7
        have hw3 : IntKind.i64.wrap (used + (k : Int)) = used + (k : Int) := IntWalk.i64_in _ (by omega)
        go_still_tail 8, (by kernel_rfl)
        change wpList _ _ _ _ _ wa.drew
        have HLb := hide (HLa.out.kp (F := NoF) ((Kp.refl NoF wa).drew) (fun h => h.elim))
        have HDb := hide (HDa.out.kp (G := NoF) ((Kp.refl NoF wa).drew) (fun _ _ h => h.elim))
        have HKb := hide (HKa.out.drew)
        clear e7 f7 za0 za1
        generalize wa.drew = wb at *
        have e7 : wb.cell? ⟨bl, 7, none⟩ = some (.int .i64 used) := HLb.out.whole.cell 7
        have f7 := HLb.out.whole.frozen 7
        have hkc : Kp (OnlyF bl) wb (wb.setCell ⟨bl, 7, none⟩ (.int .i64 (used + (k : Int)))) := Kp.set_only _ _ _ _
        have HLc := hide (show Lg (wb.setCell ⟨bl, 7, none⟩ (.int .i64 (used + (k : Int)))) bl bd h at_ (next + (k : Int)) (used + (k : Int)) from HLb.out.whole.set_ 7 (.int .i64 (used + (k : Int))))
        have HDc := hide (HDb.out.kp hkc (fun j hf hg => nl9 (by cases hg; exact hf)))
        have HKc := hide (HKb.out.trans hkc (fun j hj => .inl (.inl hj)))
        clear hkc
        go_wp2_with fail
        go_ret
        refine ⟨rfl, F9, ⟨HLc.out, HDc.out, nl9⟩, ?_, fun j hj => (HF9.out j hj).imp id (fun h => Nat.le_trans hwd2 h)⟩
        exact (Kp.of_below HB3.out).same HKc.out
  exact AllReadyH.nil
set_option maxHeartbeats 1000000 in
theorem lcommit_any (bl bd n : Nat) (F : Nat → Prop) (c : Nat → List Int) (m : Nat) (h : Hd) (at_ next used : Int) (text : ByteArray) (W : World) (hl : LD W bl bd n F c m h at_ next used)
    (hm : m + needN text.size ≤ 90000) (hs1 : 1 ≤ h.sec) (hs : h.sec < 60000) (hn : 2 + h.sec ≤ n) (hu0 : 0 ≤ used) (hu : used + needN text.size ≤ h.sec) (hx0 : 0 ≤ next) (hx1 : next < 4611686018427387904) (hsz : text.size ≤ 1000000) (ht : Tab W) (hF1 : ¬ F 0) :
    Calls Tryz.prog 114 #[.pointer (some ⟨bl, 0, none⟩), .string text] W (LDRes bl bd n F (putShs c h.sec (cutL next text)) 0 h at_ (next + needN text.size) (used + needN text.size) W) := by
  have ef : ∀ args w, (callFunc 167 args).run Tryz.prog w = .ok (.enter 167 args) w := enters_of Tryz.func167 (by kernel_rfl) rfl
  have hb1 : Below W.heap.size W (W.alloc (.cells #[.pointer (some ⟨bl, 0, none⟩)] 57)) := (Below.refl _ _).alloc (Nat.le_refl _) _
  have hx1' := Whole.new W [.pointer (some ⟨bl, 0, none⟩)] 57
  have hz1 : (W.alloc (.cells #[.pointer (some ⟨bl, 0, none⟩)] 57)).heap.size = W.heap.size + 1 := by simp
  change Whole (W.alloc (.cells #[.pointer (some ⟨bl, 0, none⟩)] 57)) _ _ _ at hx1'
  have HFn := fun W' bn bx bt (hl' : LD W' bl bd n F c m h at_ next used) h1 h2 h3 h4 h5 ht' => hide (commitFn_any bl bd n F c m h at_ next used text bn bx bt W' hl' h1 h2 h3 h4 h5 hm hs1 hs hn hu0 hu hx0 hx1 hsz ht' hF1)
  have HNeed := fun w => hide (need_any text.size w hsz)
  have HL := hide hl
  have HT := hide ht
  have HB1 := hide hb1
  have HX1 := hide hx1'
  have HZ1 := hide hz1
  clear hl ht hb1 hx1' hm hu hz1
  go_enter Tryz.func114, Tryz.ntmps114
  generalize hnd : needN text.size = nd at *
  have HNd := hide hnd
  clear hnd
  go_upto_region 1 with fail
  generalize W.alloc (.cells #[.pointer (some ⟨bl, 0, none⟩)] 57) = w1 at *
  have hb2 : Below w1.heap.size w1 (w1.alloc (.cells #[.string text] 9)) := (Below.refl _ _).alloc (Nat.le_refl _) _
  have hx2 := Whole.new w1 [.string text] 9
  have hz2 : (w1.alloc (.cells #[.string text] 9)).heap.size = w1.heap.size + 1 := by simp
  change Whole (w1.alloc (.cells #[.string text] 9)) _ _ _ at hx2
  have HB2 := hide hb2
  rw [HZ1.out] at hx2
  have HX2 := hide hx2
  have HZ2 := hide hz2
  clear hb2 hx2 hz2
  generalize w1.alloc (.cells #[.string text] 9) = w2 at *
  have HXb := hide (HX1.out.below HB2.out (HX1.out.lt))
  have y0 : w2.cell? ⟨W.heap.size, 0, none⟩ = some (.pointer (some ⟨bl, 0, none⟩)) := HXb.out.cell 0
  have y1 : w2.cell? ⟨W.heap.size + 1, 0, none⟩ = some (.string text) := HX2.out.cell 0
  go_upto_region 4 with (go_at_call 110; refine (HNeed _).out.mono ?_; rintro e w' ⟨rfl, rfl⟩)
  have hb3 : Below w2.heap.size w2 (w2.alloc (.cells #[.int .i64 (nd : Int)] 3)) := (Below.refl _ _).alloc (Nat.le_refl _) _
  have hx3 := Whole.new w2 [.int .i64 (nd : Int)] 3
  change Whole (w2.alloc (.cells #[.int .i64 (nd : Int)] 3)) _ _ _ at hx3
  have HB3 := hide hb3
  have HX3 := hide hx3
  clear hb3 hx3 y0 y1
  generalize w2.alloc (.cells #[.int .i64 (nd : Int)] 3) = w3 at *
  have HBW := hide ((HB1.out.trans (HB2.out.mono HB1.out.size)).trans (HB3.out.mono (Nat.le_trans HB1.out.size HB2.out.size)))
  have y0 : w3.cell? ⟨W.heap.size, 0, none⟩ = some (.pointer (some ⟨bl, 0, none⟩)) := (HXb.out.below HB3.out HXb.out.lt).cell 0
  have y1 : w3.cell? ⟨W.heap.size + 1, 0, none⟩ = some (.string text) := (HX2.out.below HB3.out HX2.out.lt).cell 0
  have y2 : w3.cell? ⟨w2.heap.size, 0, none⟩ = some (.int .i64 (nd : Int)) := HX3.out.cell 0
  have hll := HL.out.lt
  have hz1' := HB1.out.size
  have hz2' := HB2.out.size
  have hfl : ∀ k, W.heap.size ≤ k → ¬ F k := fun k hk hf => by have := HL.out.ds.lt hf; omega
  have HDo := hide (does_any _ _ _ (HL.out.below HBW.out) ef (HFn w3 w2.heap.size W.heap.size (W.heap.size + 1) (HL.out.below HBW.out) y2 y0 y1 ⟨hfl _ (by omega), hfl _ (by omega), hfl _ (by omega)⟩ ⟨by omega, by omega, by omega⟩ (HT.out.below HBW.out)).out)
  clear y1 y2 hfl
  go_wp2_with fail
  refine HDo.out.mono ?_
  rintro e w4 hr
  have HR := hide (LDRes.from_ HBW.out hr)
  obtain ⟨rfl, _⟩ := hr
  go_wp2_with fail
  go_ret
  exact HR.out
end Go.Proofs.YtnnfiicmplkakaaGreatDoor
namespace Go.Proofs.YtnnfiicmplkakaaGreatDoor
open Go.RowKit Go.Shelf

theorem bv_inj {a b : List Int} (h : bv a = bv b) : a = b := by
  induction a generalizing b with
  | nil =>
    cases b with
    | nil => rfl
    | cons y b => simp [bv] at h
  | cons x a ih =>
    cases b with
    | nil => simp [bv] at h
    | cons y b =>
      simp only [bv, List.map_cons, List.cons.injEq, Value.int.injEq, true_and] at h
      rw [h.1, ih h.2]
theorem pgD_inj {a b : List Int} (h : pgD a = pgD b) : a = b := by
  have h1 : (a.map fun x => (DataW.lit (.int .u8 x) : DataW Unit)) = b.map fun x => .lit (.int .u8 x) := by
    unfold pgD at h
    injection h
  clear h
  induction a generalizing b with
  | nil =>
    cases b with
    | nil => rfl
    | cons y b => simp at h1
  | cons x a ih =>
    cases b with
    | nil => simp at h1
    | cons y b =>
      simp only [List.map_cons, List.cons.injEq, DataW.lit.injEq, Lit.int.injEq, true_and] at h1
      rw [h1.1, ih h1.2]
/-- a map of pages, as a function -/
structure PgV (D : DataW Unit) (f : Nat → Option (List Int)) : Prop where
  some_ : ∀ (i : Nat) xs, f i = some xs → Maps.has D (.int .i64 i) = true ∧ (∀ z, D.atKey (.int .i64 i) z = pgD xs) ∧ xs.length = 512 ∧ Byt xs
  none_ : ∀ i : Nat, f i = none → Maps.has D (.int .i64 i) = false
  keys : ∀ kl, Maps.has D kl = true → ∃ i : Nat, kl = .int .i64 i ∧ i < 1024
def setP (f : Nat → Option (List Int)) (i : Nat) (xs : List Int) : Nat → Option (List Int) := fun j => if j = i then some xs else f j
theorem PgV.empty : PgV (.map []) (fun _ => none) := ⟨fun i xs h => (by cases h), fun _ _ => rfl, fun kl h => (by cases h)⟩
theorem i64_key (i : Nat) : WideAt.IsKeyLit (.int .i64 (i : Int)) := by simp [WideAt.IsKeyLit]
theorem PgV.put {D : DataW Unit} {f : Nat → Option (List Int)} (h : PgV D f) (hm : Maps.IsMap D) (i : Nat) (xs : List Int) (hi : i < 1024) (hl : xs.length = 512) (hb : Byt xs) : PgV (D.put (.int .i64 i) (pgD xs)) (setP f i xs) := by
  refine ⟨fun j ys hj => ?_, fun j hj => ?_, fun kl hk => ?_⟩
  · unfold setP at hj
    by_cases e : j = i
    · subst e
      rw [if_pos rfl] at hj
      cases hj
      exact ⟨Maps.has_put_same hm (i64_key _) _, fun z => Maps.atKey_put_same hm (i64_key _) _ z, hl, hb⟩
    · rw [if_neg e] at hj
      obtain ⟨h1, h2, h3⟩ := h.some_ j ys hj
      have hne : (Lit.int .i64 (j : Int)) ≠ .int .i64 (i : Int) := fun h => by injection h; omega
      exact ⟨(Maps.has_put_other hne _).trans h1, fun z => (Maps.atKey_put_other hne _ z).trans (h2 z), h3⟩
  · unfold setP at hj
    by_cases e : j = i
    · rw [if_pos e] at hj; cases hj
    · rw [if_neg e] at hj
      have hne : (Lit.int .i64 (j : Int)) ≠ .int .i64 (i : Int) := fun h => by injection h; omega
      exact (Maps.has_put_other hne _).trans (h.none_ j hj)
  · by_cases e : kl = .int .i64 i
    · exact ⟨i, e, hi⟩
    · rw [Maps.has_put_other e] at hk
      exact h.keys kl hk
/-- a map of bools, as a function -/
structure BlV (D : DataW Unit) (f : Nat → Bool) : Prop where
  has : ∀ i : Nat, Maps.has D (.int .i64 i) = f i
  keys : ∀ kl, Maps.has D kl = true → ∃ i : Nat, kl = .int .i64 i ∧ i < 1024
/-- what stays of a page store -/
structure PgS where
  bs : Nat
  bl : Nat
  bd : Nat
  n : Nat
  P : Nat
  note : ByteArray
  bk : Nat
  bt : Nat
  bc : Nat
/-- what turns -/
structure PgD where
  c : Nat → List Int
  m : Nat
  h : Hd
  at_ : Int
  next : Int
  used : Int
  q : Nat
  kp : Nat → Option (List Int)
  dt : Nat → Bool
  ch : Nat → Option (List Int)
/-- a page store in memory -/
def PSv (W : World) (s : PgS) (F : Nat → Prop) (d : PgD) : Prop :=
  ∃ Dk Dt Dc, PS W s.bs s.bl s.bd s.n F d.c d.m d.h d.at_ d.next d.used s.P s.note s.bk s.bt s.bc d.q Dk Dt Dc ∧ PgV Dk d.kp ∧ BlV Dt d.dt ∧ PgV Dc d.ch
theorem PSv.below {W W' : World} {s : PgS} {F : Nat → Prop} {d : PgD} (h : PSv W s F d) (hb : Below W.heap.size W W') : PSv W' s F d := by
  obtain ⟨Dk, Dt, Dc, h1, h2⟩ := h
  exact ⟨Dk, Dt, Dc, h1.below hb, h2⟩
/-- the page that is asked for -/
def pageAt (d : PgD) (i : Nat) : List Int := match d.ch i with
  | some xs => xs
  | none => match d.kp i with
    | some xs => xs
    | none => d.c (2 + d.h.sec + i)
/-- behind the asking -/
def PgD.read (d : PgD) (i : Nat) : PgD := match d.ch i with
  | some _ => d
  | none => match d.kp i with
    | some _ => d
    | none => { d with kp := setP d.kp i (d.c (2 + d.h.sec + i)), q := d.q + 1 }
def PageRes (s : PgS) (F : Nat → Prop) (d : PgD) (xs : List Int) (W : World) (e : Ending) (W' : World) : Prop :=
  ∃ A, e = .returned (.tuple #[.slice A 512 512, .int .i64 0]) ∧ Mem W' W'.heap.size A (bv xs) ∧ PSv W' s F d ∧ Kp (TwoF s.bs s.bk) W W'
theorem PS.turn {W W' : World} {bs bl bd n : Nat} {F : Nat → Prop} {c : Nat → List Int} {m : Nat} {h : Hd} {at_ next used : Int} {P : Nat} {note : ByteArray} {bk bt bc q q' : Nat} {Dk Dt Dc Dk' Dt' Dc' : DataW Unit} {G : Nat → Prop}
    (hp : PS W bs bl bd n F c m h at_ next used P note bk bt bc q Dk Dt Dc) (hk : Kp G W W') (hG : ∀ k, G k → k = bk ∨ k = bt ∨ k = bc)
    (h1 : W'.ownsMap Tryz.prog 3 pgR bk q' Dk') (h2 : W'.ownsMap Tryz.prog 3 (plainElem Tryz.prog 4) bt q' Dt') (h3 : W'.ownsMap Tryz.prog 3 pgR bc q' Dc') :
    PS W' bs bl bd n F c m h at_ next used P note bk bt bc q' Dk' Dt' Dc' := by
  have n1 := hp.nf
  have n2 := hp.nl
  have n3 := hp.ns
  refine ⟨hp.st.kp hk (fun e => ?_), ⟨hp.ld.lg.kp hk (fun e => ?_), hp.ld.ds.kp hk (fun k hf hg => ?_), hp.ld.ne⟩, h1, h2, h3, hp.nf, hp.nl, hp.ns, hp.nm⟩
  · rcases hG _ e with e | e | e
    · exact n3.1 e.symm
    · exact n3.2.1 e.symm
    · exact n3.2.2 e.symm
  · rcases hG _ e with e | e | e
    · exact n2.2.1 e.symm
    · exact n2.2.2.1 e.symm
    · exact n2.2.2.2 e.symm
  · rcases hG _ hg with e | e | e
    · exact n1.2.1 (e ▸ hf)
    · exact n1.2.2.1 (e ▸ hf)
    · exact n1.2.2.2 (e ▸ hf)
theorem mem_ne_map {w : World} {B : Nat} {A : Option Addr} {xs : List Value} (h : Mem w B A xs) (hn : 0 < xs.length) {k : TypeId} {R : Value → Option (DataW Unit × List MemPlace)} {b q : Nat} {D : DataW Unit} (hm : w.ownsMap Tryz.prog k R b q D) : ∀ off, A ≠ some ⟨b, off, none⟩ := by
  intro off e
  obtain ⟨b', off', rfl, _, hc⟩ := h hn
  cases e
  obtain ⟨es, clock, h1, _⟩ := hm
  have := hc 0 hn
  rw [World.cell?] at this
  simp only [h1] at this
  cases this
theorem mem_ne_whole {w : World} {B : Nat} {A : Option Addr} {xs : List Int} (h : Mem w B A (bv xs)) (hl : xs.length = 512) {b : Nat} {t : TypeId} {cs : List Value} (hw : Whole w b t cs) (hc : cs.length < 512) : ∀ off, A ≠ some ⟨b, off, none⟩ := by
  intro off e
  obtain ⟨b', off', rfl, _, h1⟩ := h.get (by rw [bv_len, hl]; decide)
  cases e
  have h2 := h1 511 (by rw [bv_len, hl]; decide)
  rw [hw.cell, List.getElem?_eq_none (by omega)] at h2
  cases h2
theorem Mem.kpx {w w' : World} {A : Option Addr} {xs : List Value} {b : Nat} (h : Mem w w.heap.size A xs) (hk : Kp (OnlyF b) w w') (hn : ∀ off, A = some ⟨b, off, none⟩ → False) : Mem w' w'.heap.size A xs := by
  intro h0
  obtain ⟨b', off', rfl, hb, h1⟩ := h h0
  refine ⟨b', off', rfl, Nat.lt_of_lt_of_le hb hk.size, fun i hi => ?_⟩
  rw [hk.cell (p := ⟨b', off' + i, none⟩) hb (fun e => hn off' (by cases e; rfl))]
  exact h1 i hi
theorem mem_range {w : World} {B : Nat} {b off : Nat} {xs : List Value} (h : Mem w B (some ⟨b, off, none⟩) xs) : w.rangeAt b off xs := by
  intro j v hv
  have hj := (List.getElem?_eq_some_iff.1 hv).1
  obtain ⟨b', off', e, _, hc⟩ := h (by omega)
  cases e
  rw [hc j hj]
  rw [List.getElem?_eq_getElem hj] at hv
  exact hv
theorem page_at (b o : Nat) (w : World) : (Instr.arrayAt 209 (.slice (some ⟨b, o, none⟩) 512 512)).run Tryz.prog w = .ok (.pointer (some ⟨b, o, none⟩)) w := by kernel_rfl
theorem zpage_rep : Tryz.zeroCells209 = Array.replicate 512 (.int .u8 0) := by kernel_rfl
theorem zpage : Tryz.zeroCells209 = (bv (zeros 512)).toArray := by
  rw [zpage_rep]
  apply Array.ext'
  unfold bv zeros
  rw [List.map_replicate, Array.toList_replicate]
theorem pageInfo : (Tryz.prog.info? 209).map (·.size) = some 512 := by kernel_rfl
theorem page_facts {xs : List Int} (hl : xs.length = 512) : (Tryz.prog.info? 209).map (·.size) = some (bv xs).toArray.size ∧ Tryz.zeroCells209.size = (bv xs).toArray.size ∧ (bv xs).toArray.all (·.oneCell') = true := by
  have hbl : (bv xs).toArray.size = 512 := by rw [List.size_toArray, bv_len, hl]
  exact ⟨by rw [hbl]; exact pageInfo, by rw [zpage_rep, Array.size_replicate, hbl], all_oneCell_toArray (bv_one xs)⟩
/-- what a look in a map of pages finds -/
theorem PgV.found {D : DataW Unit} {f : Nat → Option (List Int)} (h : PgV D f) {i : Nat} {xs : List Int} (hf : f i = some xs) {v : Value} {ps : List MemPlace} {z : DataW Unit} (hv : pgR v = some (D.atKey (.int .i64 i) z, ps)) : v = pgV xs ∧ xs.length = 512 ∧ Byt xs := by
  obtain ⟨h1, h2, h3⟩ := h.some_ i xs hf
  obtain ⟨ys, rfl, hl, he⟩ := pgR_inv _ _ hv
  rw [h2] at he
  injection he with he _
  obtain rfl := pgD_inj he
  exact ⟨rfl, h3⟩
set_option maxHeartbeats 400000 in
set_option maxRecDepth 20000 in
theorem page_any (s : PgS) (F : Nat → Prop) (d : PgD) (i : Nat) (W : World) (h : PSv W s F d) (hi : i < s.P) (hP : s.P ≤ 1024) (hq : d.q ≤ 100000) (hm : d.m ≤ 100000) (hs : d.h.sec ≤ 60000) (hn : 2 + d.h.sec + s.P ≤ s.n) (hc : ∀ j, (d.c j).length = 512 ∧ Byt (d.c j)) :
    Calls Tryz.prog 117 #[.pointer (some ⟨s.bs, 0, none⟩), .int .i64 (i : Int)] W (PageRes s F (d.read i) (pageAt d i) W) := by
  obtain ⟨bs, bl, bd, n, P, note, bk, bt, bc⟩ := s
  obtain ⟨c, m, hd, at_, next, used, q, kp, dt, ch⟩ := d
  obtain ⟨Dk, Dt, Dc, hp, vk, vt, vc⟩ := h
  simp only at *
  have HP := hide hp
  have VK := hide vk
  have VT := hide vt
  have VC := hide vc
  have HC := hide hc
  have HMay := hide (may_any i hp hi)
  have hz : ∀ w, (zeroValue 209).run Tryz.prog w = .ok (pgV (zeros 512)) w := fun w => by
    have := Tryz.zeroValue209 w
    rw [this, zpage]
    rfl
  have HZ := hide hz
  have hzl : (zeros 512).length = 512 := List.length_replicate
  have HZl := hide hzl
  have i0 : ∀ w, (Instr.index 261 (.agg #[.map (some bc), .map (some bk)]) (.int .i64 0)).run Tryz.prog w = .ok (.map (some bc)) w := fun _ => by kernel_rfl
  have i1 : ∀ w, (Instr.index 261 (.agg #[.map (some bc), .map (some bk)]) (.int .i64 1)).run Tryz.prog w = .ok (.map (some bk)) w := fun _ => by kernel_rfl
  have c4 : W.cell? ⟨bs, 4, none⟩ = some (.map (some bk)) := hp.st.cell 4
  have c6 : W.cell? ⟨bs, 6, none⟩ = some (.map (some bc)) := hp.st.cell 6
  clear hp vk vt vc hc hz hzl
  generalize hR : PageRes _ _ _ _ _ = R
  have HR := hide hR
  clear hR
  have HWf := hide (show (Lit.int .i64 (i : Int)).wf = true from WalkArith.wf_i64 (by omega))
  go_enter Tryz.func117, Tryz.ntmps117
  go_wp2_with fail
  refine HMay.out.mono ?_
  rintro e w' ⟨rfl, rfl⟩
  go_upto_region 4 with fail
  go_quiet (fail)
  have HB1 := hide (below_drewN (Below.refl W.heap.size W) nq)
  clear c4 c6
  generalize W.drewN nq = w1 at *
  go_wp2_with fail
  go_loopw [28] (fun x wr => Below W.heap.size W wr ∧ ((x = .int .i64 0) ∨ (x = .int .i64 1 ∧ ch i = none) ∨ (x = .int .i64 2 ∧ ch i = none ∧ kp i = none))) (fun x _ => 2 - (intOf x).toNat)
  case atStart => exact ⟨HB1.out, .inl rfl⟩
  case round =>
    obtain ⟨hb, hx⟩ := hrel
    have HB := hide hb
    have HPr := hide (HP.out.below hb)
    clear hb
    rcases hx with rfl | ⟨rfl, hci⟩ | ⟨rfl, hci, hki⟩
    · obtain ⟨o, hci⟩ : ∃ o, ch i = o := ⟨_, rfl⟩
      cases o with
      | some xs =>
        have HE := hide (show R = PageRes ⟨bs, bl, bd, n, P, note, bk, bt, bc⟩ F ⟨c, m, hd, at_, next, used, q, kp, dt, ch⟩ xs W by rw [← HR.out]; simp only [PgD.read, pageAt, hci])
        obtain ⟨hh, _, hl, _⟩ := VC.out.some_ i xs hci
        have HFa := hide (page_facts hl)
        have HF := hide (fun (v : Value) (ps : List MemPlace) (hv : pgR v = some (Dc.atKey (.int .i64 i) (pgD (zeros 512)), ps)) => (VC.out.found hci hv).1)
        have HW6 := hide (Whole.new wr (bv xs) 209)
        have hb6 : Below wr.heap.size wr (wr.alloc (.cells (bv xs).toArray 209)) := (Below.refl _ _).alloc (Nat.le_refl _) _
        have HB6 := hide hb6
        have HCi := hide hci
        clear hci hl hb6
        go_wp2_with (first | (at_lookup; refine wpList_lookup_own_ok _ rfl _ _ 157 rfl 3 209 (Maps.int_keyed Tryz.underlying3) Tryz.underlying157 pgR (HZ.out _) (pgD (zeros 512)) [] (pgR_val _ HZl.out) bc q Dc rfl HPr.out.change (.int .i64 i) (.int .i64 i) rfl (Maps.keyOf_int_mk Tryz.underlying3 HWf.out) ?_; intro v ps hv; obtain rfl := HF.out v ps hv; clear hv; rw [hh]; unfold pgV) | (refine wpList_store_new wr rfl 209 _ _ rfl Tryz.zeroCells209 (bv xs).toArray rfl rfl HFa.out.1 HFa.out.2.1 HFa.out.2.2 ?_))
        rw [HE.out]
        have hm6 := HW6.out.mem
        exact ⟨some ⟨wr.heap.size, 0, none⟩, rfl, hm6, ⟨Dk, Dt, Dc, HPr.out.below HB6.out, VK.out, VT.out, VC.out⟩, Kp.of_below (HB.out.trans (HB6.out.mono HB.out.size))⟩
      | none =>
        have hh := VC.out.none_ i hci
        have HCi := hide hci
        clear hci
        go_wp2_with (first | (at_lookup; refine wpList_lookup_own_ok _ rfl _ _ 157 rfl 3 209 (Maps.int_keyed Tryz.underlying3) Tryz.underlying157 pgR (HZ.out _) (pgD (zeros 512)) [] (pgR_val _ HZl.out) bc q Dc rfl HPr.out.change (.int .i64 i) (.int .i64 i) rfl (Maps.keyOf_int_mk Tryz.underlying3 HWf.out) ?_; intro v ps hv; obtain ⟨ys, rfl, hyl, _⟩ := pgR_inv _ _ hv; have HFa := hide (page_facts hyl); clear hv hyl; rw [hh]; unfold pgV) | (refine wpList_store_new wr rfl 209 _ _ rfl Tryz.zeroCells209 (bv ys).toArray rfl rfl HFa.out.1 HFa.out.2.1 HFa.out.2.2 ?_))
        go_roundw
        case rel => exact ⟨HB.out.alloc HB.out.size _, .inr (.inl ⟨rfl, HCi.out⟩)⟩
        case measure => simp [intOf]
    · have HCh := hide hci
      clear hci
      obtain ⟨o, hci⟩ : ∃ o, kp i = o := ⟨_, rfl⟩
      cases o with
      | some xs =>
        have HE := hide (show R = PageRes ⟨bs, bl, bd, n, P, note, bk, bt, bc⟩ F ⟨c, m, hd, at_, next, used, q, kp, dt, ch⟩ xs W by rw [← HR.out]; simp only [PgD.read, pageAt, HCh.out, hci])
        obtain ⟨hh, _, hl, _⟩ := VK.out.some_ i xs hci
        have HFa := hide (page_facts hl)
        have HF := hide (fun (v : Value) (ps : List MemPlace) (hv : pgR v = some (Dk.atKey (.int .i64 i) (pgD (zeros 512)), ps)) => (VK.out.found hci hv).1)
        have HW6 := hide (Whole.new wr (bv xs) 209)
        have hb6 : Below wr.heap.size wr (wr.alloc (.cells (bv xs).toArray 209)) := (Below.refl _ _).alloc (Nat.le_refl _) _
        have HB6 := hide hb6
        have HCi := hide hci
        clear hci hl hb6
        go_wp2_with (first | (at_lookup; refine wpList_lookup_own_ok _ rfl _ _ 157 rfl 3 209 (Maps.int_keyed Tryz.underlying3) Tryz.underlying157 pgR (HZ.out _) (pgD (zeros 512)) [] (pgR_val _ HZl.out) bk q Dk rfl HPr.out.kept (.int .i64 i) (.int .i64 i) rfl (Maps.keyOf_int_mk Tryz.underlying3 HWf.out) ?_; intro v ps hv; obtain rfl := HF.out v ps hv; clear hv; rw [hh]; unfold pgV) | (refine wpList_store_new wr rfl 209 _ _ rfl Tryz.zeroCells209 (bv xs).toArray rfl rfl HFa.out.1 HFa.out.2.1 HFa.out.2.2 ?_))
        rw [HE.out]
        have hm6 := HW6.out.mem
        exact ⟨some ⟨wr.heap.size, 0, none⟩, rfl, hm6, ⟨Dk, Dt, Dc, HPr.out.below HB6.out, VK.out, VT.out, VC.out⟩, Kp.of_below (HB.out.trans (HB6.out.mono HB.out.size))⟩
      | none =>
        have hh := VK.out.none_ i hci
        have HCi := hide hci
        clear hci
        go_wp2_with (first | (at_lookup; refine wpList_lookup_own_ok _ rfl _ _ 157 rfl 3 209 (Maps.int_keyed Tryz.underlying3) Tryz.underlying157 pgR (HZ.out _) (pgD (zeros 512)) [] (pgR_val _ HZl.out) bk q Dk rfl HPr.out.kept (.int .i64 i) (.int .i64 i) rfl (Maps.keyOf_int_mk Tryz.underlying3 HWf.out) ?_; intro v ps hv; obtain ⟨ys, rfl, hyl, _⟩ := pgR_inv _ _ hv; have HFa := hide (page_facts hyl); clear hv hyl; rw [hh]; unfold pgV) | (refine wpList_store_new wr rfl 209 _ _ rfl Tryz.zeroCells209 (bv ys).toArray rfl rfl HFa.out.1 HFa.out.2.1 HFa.out.2.2 ?_))
        go_roundw
        case rel => exact ⟨HB.out.alloc HB.out.size _, .inr (.inr ⟨rfl, HCh.out, HCi.out⟩)⟩
        case measure => simp [intOf]
    · have HE := hide (show R = PageRes ⟨bs, bl, bd, n, P, note, bk, bt, bc⟩ F ⟨c, m, hd, at_, next, used, q + 1, setP kp i (c (2 + hd.sec + i)), dt, ch⟩ (c (2 + hd.sec + i)) W by rw [← HR.out]; simp only [PgD.read, pageAt, hci, hki])
      have hll := HPr.out.st.lt
      clear hci hki
      have HLc := hide (HC.out (2 + hd.sec + i)).1
      have HI := hide (show (Tryz.prog.info? 209).map (·.size) = some (bv (c (2 + hd.sec + i))).length from by rw [bv_len, HLc.out]; exact pageInfo)
      go_upto_region 11 with fail
      refine wp_region_held_drew (S := (fun w' => Below W.heap.size W w')) (by kernel_rfl) (HB.out.drew) (fun hHeld => ?_)
      generalize wr.drew = wd at *
      refine wpAnyH_take (i := 0) (v := ?vaq1) rfl (by kernel_rfl) (by kernel_rfl) (by kernel_rfl) (fun _ _ _ h => h) (Or.inl ⟨by rfl, ?haq1⟩) (by assumption) ?raq1
      case haq1 => (intro wq hSw; go_simp; (try with_reducible rfl))
      try simp only [Act.put, List.getElem_toArray, List.getElem_cons_zero, List.setIfInBounds_toArray, List.set_cons_zero, List.set_cons_succ]
      refine wpAnyH_take (i := 1) (v := ?vaq2) rfl (by kernel_rfl) (by kernel_rfl) (by kernel_rfl) (fun _ _ _ h => h) (Or.inl ⟨by rfl, ?haq2⟩) (by assumption) ?raq2
      case haq2 => (intro wq hSw; go_simp; (try with_reducible rfl))
      try simp only [Act.put, List.getElem_toArray, List.getElem_cons_zero, List.getElem_cons_succ, List.setIfInBounds_toArray, List.set_cons_zero, List.set_cons_succ]
      refine wpAnyH_take (i := 2) (v := ?vaq3) rfl (by kernel_rfl) (by kernel_rfl) (by kernel_rfl) (fun _ _ _ h => h) (Or.inl ⟨by rfl, ?haq3⟩) (by assumption) ?raq3
      case haq3 => (intro wq hSw; go_simp; (try with_reducible rfl))
      try simp only [Act.put, List.getElem_toArray, List.getElem_cons_zero, List.getElem_cons_succ, List.setIfInBounds_toArray, List.set_cons_zero, List.set_cons_succ]
      refine wpAnyH_take (i := 3) (v := ?vaq4) rfl (by kernel_rfl) (by kernel_rfl) (by kernel_rfl) (fun _ _ _ h => h) (Or.inl ⟨by rfl, ?haq4⟩) (by assumption) ?raq4
      case haq4 => (intro wq hSw; have hX := (HP.out.below hSw).st; have e0 := hX.cell 0; have e1 := hX.cell 1; simp only [List.getElem?_cons_zero, List.getElem?_cons_succ] at e0 e1; go_simp; (try with_reducible rfl))
      try simp only [Act.put, List.getElem_toArray, List.getElem_cons_zero, List.getElem_cons_succ, List.setIfInBounds_toArray, List.set_cons_zero, List.set_cons_succ]
      refine wpAnyH_take (i := 4) (v := ?vaq5) rfl (by kernel_rfl) (by kernel_rfl) (by kernel_rfl) (fun _ _ _ h => h) (Or.inl ⟨by rfl, ?haq5⟩) (by assumption) ?raq5
      case haq5 => (intro wq hSw; go_simp; (try with_reducible rfl))
      try simp only [Act.put, List.getElem_toArray, List.getElem_cons_zero, List.getElem_cons_succ, List.setIfInBounds_toArray, List.set_cons_zero, List.set_cons_succ]
      refine wpAnyH_take (i := 5) (v := ?vaq6) rfl (by kernel_rfl) (by kernel_rfl) (by kernel_rfl) (fun _ _ _ h => h) (Or.inl ⟨by rfl, ?haq6⟩) (by assumption) ?raq6
      case haq6 => (intro wq hSw; go_simp; (try with_reducible rfl))
      try simp only [Act.put, List.getElem_toArray, List.getElem_cons_zero, List.getElem_cons_succ, List.setIfInBounds_toArray, List.set_cons_zero, List.set_cons_succ]
      refine wpAnyH_take (i := 6) (v := ?vaq7) rfl (by kernel_rfl) (by kernel_rfl) (by kernel_rfl) (fun _ _ _ h => h) (Or.inl ⟨by rfl, ?haq7⟩) (by assumption) ?raq7
      case haq7 => (intro wq hSw; go_simp; (try with_reducible rfl))
      try simp only [Act.put, List.getElem_toArray, List.getElem_cons_zero, List.getElem_cons_succ, List.setIfInBounds_toArray, List.set_cons_zero, List.set_cons_succ]
      refine wpAnyH_take (i := 7) (v := ?vaq8) rfl (by kernel_rfl) (by kernel_rfl) (by kernel_rfl) (fun _ _ _ h => h) (Or.inl ⟨by rfl, ?haq8⟩) (by assumption) ?raq8
      case haq8 => (intro wq hSw; have hX := (HP.out.below hSw).st; have e0 := hX.cell 0; have e1 := hX.cell 1; simp only [List.getElem?_cons_zero, List.getElem?_cons_succ] at e0 e1; go_simp; (try with_reducible rfl))
      try simp only [Act.put, List.getElem_toArray, List.getElem_cons_zero, List.getElem_cons_succ, List.setIfInBounds_toArray, List.set_cons_zero, List.set_cons_succ]
      refine wpAnyH_take (i := 9) (v := ?vaq9) rfl (by kernel_rfl) (by kernel_rfl) (by kernel_rfl) (fun _ _ _ h => h) (Or.inl ⟨by rfl, ?haq9⟩) (by assumption) ?raq9
      case haq9 => (intro wq hSw; go_simp; (try with_reducible rfl))
      try simp only [Act.put, List.getElem_toArray, List.getElem_cons_zero, List.getElem_cons_succ, List.setIfInBounds_toArray, List.set_cons_zero, List.set_cons_succ]
      refine wpAnyH_ready (rs := [8]) (by kernel_rfl) (by simp) ?_
      refine AllReadyH.cons (o := _) rfl (fun K hK => ?_) ?_
      · skip
        go_simp
        refine (lsec_any (HP.out.below hHeld).ld.lg).mono ?_
        rintro e wo ⟨rfl, rfl⟩
        refine hK.out _ _ (hHeld) (fun hHeld => ?_)
        clear hK K 
        try simp only [Act.put, List.getElem_toArray, List.getElem_cons_zero, List.getElem_cons_succ, List.setIfInBounds_toArray, List.set_cons_zero, List.set_cons_succ]
        refine wpAnyH_ready (rs := [10]) (by kernel_rfl) (by simp) ?_
        refine AllReadyH.cons (o := _) rfl (fun K hK => ?_) ?_
        · skip
          go_simp
          refine (sector_any hd.sec i wd (by omega) (by omega)).mono ?_
          rintro e wo ⟨rfl, rfl⟩
          refine hK.out _ _ (hHeld) (fun hHeld => ?_)
          clear hK K 
          try simp only [Act.put, List.getElem_toArray, List.getElem_cons_zero, List.getElem_cons_succ, List.setIfInBounds_toArray, List.set_cons_zero, List.set_cons_succ]
          refine wpAnyH_ready (rs := [11]) (by kernel_rfl) (by simp) ?_
          refine AllReadyH.cons (o := _) rfl (fun K hK => ?_) ?_
          · skip
            go_simp
            refine ((HP.out.below hHeld).ld.ds.read hm (i := 2 + hd.sec + i) (by omega)).mono ?_
            rintro e w3 ⟨A, rfl, hm3, hb3⟩
            have HM3 := hide hm3
            have HB3 := hide (hHeld.trans (hb3.mono hHeld.size))
            clear hm3 hb3
            refine hK.out _ _ (HB3.out) (fun hHeld => ?_)
            clear hK K 
            try simp only [Act.put, List.getElem_toArray, List.getElem_cons_zero, List.getElem_cons_succ, List.setIfInBounds_toArray, List.set_cons_zero, List.set_cons_succ]
            refine wpAnyH_take (i := 12) (v := ?vaq10) rfl (by kernel_rfl) (by kernel_rfl) (by kernel_rfl) (fun _ _ _ h => h) (Or.inl ⟨by rfl, ?haq10⟩) (by assumption) ?raq10
            case haq10 => (intro wq hSw; go_simp; (try with_reducible rfl))
            try simp only [Act.put, List.getElem_toArray, List.getElem_cons_zero, List.getElem_cons_succ, List.setIfInBounds_toArray, List.set_cons_zero, List.set_cons_succ]
            refine wpAnyH_take (i := 13) (v := ?vaq11) rfl (by kernel_rfl) (by kernel_rfl) (by kernel_rfl) (fun _ _ _ h => h) (Or.inl ⟨by rfl, ?haq11⟩) (by assumption) ?raq11
            case haq11 => (intro wq hSw; go_simp; (try with_reducible rfl))
            try simp only [Act.put, List.getElem_toArray, List.getElem_cons_zero, List.getElem_cons_succ, List.setIfInBounds_toArray, List.set_cons_zero, List.set_cons_succ]
            refine wpAnyH_take (i := 14) (v := ?vaq12) rfl (by kernel_rfl) (by kernel_rfl) (by kernel_rfl) (fun _ _ _ h => h) (Or.inl ⟨by rfl, ?haq12⟩) (by assumption) ?raq12
            case haq12 => (intro wq hSw; go_simp; (try with_reducible rfl))
            try simp only [Act.put, List.getElem_toArray, List.getElem_cons_zero, List.getElem_cons_succ, List.setIfInBounds_toArray, List.set_cons_zero, List.set_cons_succ]
            refine wpAnyH_take (i := 15) (v := ?vaq13) rfl (by kernel_rfl) (by kernel_rfl) (by kernel_rfl) (fun _ _ _ h => h) (Or.inl ⟨by rfl, ?haq13⟩) (by assumption) ?raq13
            case haq13 => (intro wq hSw; go_simp; (try with_reducible rfl))
            try simp only [Act.put, List.getElem_toArray, List.getElem_cons_zero, List.getElem_cons_succ, List.setIfInBounds_toArray, List.set_cons_zero, List.set_cons_succ]
            refine wpAnyH_take (i := 16) (v := ?vaq14) rfl (by kernel_rfl) (by kernel_rfl) (by kernel_rfl) (fun _ _ _ h => h) (Or.inl ⟨by rfl, ?haq14⟩) (by assumption) ?raq14
            case haq14 => (intro wq hSw; go_simp; (try with_reducible rfl))
            try simp only [Act.put, List.getElem_toArray, List.getElem_cons_zero, List.getElem_cons_succ, List.setIfInBounds_toArray, List.set_cons_zero, List.set_cons_succ]
            refine wpAnyH_done (by kernel_rfl) ?_ _
            have hP3 := HP.out.below HB3.out
            have HP3 := hide hP3
            have HSay := hide (says_any hP3)
            clear hP3 hHeld
            go_wp2_with fail
            refine HSay.out.mono ?_
            rintro e w4 ⟨rfl, hp4, hk4⟩
            have HP4 := hide hp4
            have hne : ∀ off, A ≠ some ⟨bs, off, none⟩ := mem_ne_whole HM3.out HLc.out HP3.out.st (by simp)
            have hne2 : ∀ off, A ≠ some ⟨bk, off, none⟩ := mem_ne_map HM3.out (by rw [bv_len, HLc.out]; decide) HP3.out.kept
            obtain ⟨bA, oA, rfl, hbA, _⟩ := HM3.out.get (by rw [bv_len, HLc.out]; decide)
            have HM4 := hide (HM3.out.kpx hk4 (fun off e => hne off e))
            have HK4 := hide ((Kp.of_below (F := TwoF bs bk) HB3.out).trans hk4 (fun j hj => .inl (.inl hj)))
            clear hp4 hk4 HSay
            have hat := page_at bA oA
            go_upto_region 14 with fail
            refine wp_region_held_drew (S := (fun w' => Kp (OnlyF bk) w4 w')) (by kernel_rfl) ((Kp.refl _ _).drew) (fun hHeld => ?_)
            have HPd := hide (HP4.out.below (Below.refl w4.heap.size w4).drew)
            generalize w4.drew = wd at *
            refine wpAnyH_take (i := 0) (v := ?vbq1) rfl (by kernel_rfl) (by kernel_rfl) (by kernel_rfl) (fun _ _ _ h => h) (Or.inl ⟨by rfl, ?hbq1⟩) (by assumption) ?rbq1
            case hbq1 => (intro wq hSw; go_simp; (try with_reducible rfl))
            try simp only [Act.put, List.getElem_toArray, List.getElem_cons_zero, List.setIfInBounds_toArray, List.set_cons_zero, List.set_cons_succ]
            refine wpAnyH_take (i := 1) (v := ?vbq2) rfl (by kernel_rfl) (by kernel_rfl) (by kernel_rfl) (fun _ _ _ h => h) (Or.inl ⟨by rfl, ?hbq2⟩) (by assumption) ?rbq2
            case hbq2 => (intro wq hSw; go_simp; (try with_reducible rfl))
            try simp only [Act.put, List.getElem_toArray, List.getElem_cons_zero, List.getElem_cons_succ, List.setIfInBounds_toArray, List.set_cons_zero, List.set_cons_succ]
            refine wpAnyH_take (i := 2) (v := ?vbq3) rfl (by kernel_rfl) (by kernel_rfl) (by kernel_rfl) (fun _ _ _ h => h) (Or.inl ⟨by rfl, ?hbq3⟩) (by assumption) ?rbq3
            case hbq3 => (intro wq hSw; go_simp; (try with_reducible rfl))
            try simp only [Act.put, List.getElem_toArray, List.getElem_cons_zero, List.getElem_cons_succ, List.setIfInBounds_toArray, List.set_cons_zero, List.set_cons_succ]
            refine wpAnyH_take (i := 3) (v := ?vbq4) rfl (by kernel_rfl) (by kernel_rfl) (by kernel_rfl) (fun _ _ _ h => h) (Or.inl ⟨by rfl, ?hbq4⟩) (by assumption) ?rbq4
            case hbq4 => (intro wq hSw; have hX := HP4.out.st.kp hSw (fun e => HP4.out.ns.1 e.symm); have e4 := hX.cell 4; simp only [List.getElem?_cons_zero, List.getElem?_cons_succ] at e4; go_simp; (try with_reducible rfl))
            try simp only [Act.put, List.getElem_toArray, List.getElem_cons_zero, List.getElem_cons_succ, List.setIfInBounds_toArray, List.set_cons_zero, List.set_cons_succ]
            refine wpAnyH_take (i := 4) (v := ?vbq5) rfl (by kernel_rfl) (by kernel_rfl) (by kernel_rfl) (fun _ _ _ h => h) (Or.inl ⟨by rfl, ?hbq5⟩) (by assumption) ?rbq5
            case hbq5 => (intro wq hSw; go_simp; (try with_reducible rfl))
            try simp only [Act.put, List.getElem_toArray, List.getElem_cons_zero, List.getElem_cons_succ, List.setIfInBounds_toArray, List.set_cons_zero, List.set_cons_succ]
            refine wpAnyH_take (i := 5) (v := ?vbq6) rfl (by kernel_rfl) (by kernel_rfl) (by kernel_rfl) (fun _ _ _ h => h) (Or.inl ⟨by rfl, ?hbq6⟩) (by assumption) ?rbq6
            case hbq6 => (intro wq hSw; go_simp; (try with_reducible rfl))
            try simp only [Act.put, List.getElem_toArray, List.getElem_cons_zero, List.getElem_cons_succ, List.setIfInBounds_toArray, List.set_cons_zero, List.set_cons_succ]
            refine wpAnyH_take (i := 6) (v := ?vbq7) rfl (by kernel_rfl) (by kernel_rfl) (by kernel_rfl) (fun _ _ _ h => h) (Or.inl ⟨by rfl, ?hbq7⟩) (by assumption) ?rbq7
            case hbq7 => (intro wq hSw; go_simp; (try with_reducible rfl))
            try simp only [Act.put, List.getElem_toArray, List.getElem_cons_zero, List.getElem_cons_succ, List.setIfInBounds_toArray, List.set_cons_zero, List.set_cons_succ]
            refine wpAnyH_take (i := 7) (v := .agg (bv (c (2 + hd.sec + i))).toArray) rfl (by kernel_rfl) (by kernel_rfl) (by kernel_rfl) (fun _ _ _ h => h) (Or.inl ⟨by rfl, ?hbq8⟩) (by assumption) ?rbq8
            case hbq8 => (exact fun wq hSw => exec_load_mid wq 209 _ rfl bA oA rfl (bv (c (2 + hd.sec + i))) _ (mem_range (HM4.out.kpx hSw (fun off e => hne2 off e))) Tryz.underlying209 rfl HI.out)
            try simp only [Act.put, List.getElem_toArray, List.getElem_cons_zero, List.getElem_cons_succ, List.setIfInBounds_toArray, List.set_cons_zero, List.set_cons_succ]
            refine wpAnyH_ready (rs := [8]) (by kernel_rfl) (by simp) ?_
            refine AllReadyH.cons (o := _) rfl (fun K hK => ?_) ?_
            · skip
              have hPd := HPd.out
              obtain ⟨w5, hrun, ho5, ht5⟩ := hPd.kept.store (Maps.int_keyed Tryz.underlying3) Tryz.underlying157 (t := 157) (by unfold maxLen; omega) (Maps.keyOf_int_mk Tryz.underlying3 HWf.out) (pgR_val _ HLc.out)
              unfold pgV at hrun
              have HO5 := hide ho5
              have hk5 : Kp (OnlyF bk) wd w5 := (Kp.refl _ _).grown ht5.grown (fun k hk => .inl (by cases hk; rfl))
              have HK5 := hide hk5
              have HKd := hide hHeld
              clear hPd ho5 ht5 hk5
              go_simp
              refine hK.out _ _ (hHeld.same HK5.out) (fun hHeld => ?_)
              clear hK K 
              try simp only [Act.put, List.getElem_toArray, List.getElem_cons_zero, List.getElem_cons_succ, List.setIfInBounds_toArray, List.set_cons_zero, List.set_cons_succ]
              refine wpAnyH_done (by kernel_rfl) ?_ _
              have hnm := HPd.out.nm
              have hps := HPd.out.turn HK5.out (fun k hk => .inl hk) HO5.out ((owns_kp HPd.out.dirty HK5.out (fun e => hnm.1 e.symm)).mono (Nat.le_succ _)) ((owns_kp HPd.out.change HK5.out (fun e => hnm.2.1 e.symm)).mono (Nat.le_succ _))
              have HPS := hide hps
              have HVk := hide (VK.out.put HPd.out.kept.isMap i _ (by omega) HLc.out (HC.out (2 + hd.sec + i)).2)
              have HM5 := hide (HM4.out.kpx (HKd.out.same HK5.out) (fun off e => hne2 off e))
              have HKf := hide ((HK4.out.trans HKd.out (fun j hj => .inl (.inr hj))).trans HK5.out (fun j hj => .inl (.inr hj)))
              clear hps hrun hat hHeld
              go_wp2_with fail
              rw [HE.out]
              exact ⟨some ⟨bA, oA, none⟩, rfl, HM5.out, ⟨_, _, _, HPS.out, HVk.out, VT.out, VC.out⟩, HKf.out⟩
            exact AllReadyH.nil
          exact AllReadyH.nil
        exact AllReadyH.nil
      exact AllReadyH.nil
end Go.Proofs.YtnnfiicmplkakaaGreatDoor
