/- Walk of the law's Great: are the acts too many or too long? Walk of the law KeepBack. The acts of a statement, opened: as they lie in memory when the call begins. -/
import Derived.Test.YtokibbgahefkbaaGreatDoorU3
import Derived.Test.YtokibbgahefkbaaGreatDoorU4
import Derived.Deep.Slices
import Derived.ChangeArms
import Derived.Lib.SmallJoins
import Derived.ProofKit
set_option linter.all false
namespace Go.Proofs.YtokibbgahefkbaaGreatDoor.Fe
open Go.RowKit Go.Shelf

/-- an act: what to do, a key, a value -/
abbrev ActT := Int × ByteArray × ByteArray
def av (acts : List ActT) : List Value := acts.flatMap fun a => [.int .u8 a.1, .string a.2.1, .string a.2.2]
theorem av_len (acts : List ActT) : (av acts).length = acts.length * 3 := by
  induction acts with
  | nil => rfl
  | cons a acts ih =>
    show ([Value.int .u8 a.1, .string a.2.1, .string a.2.2] ++ av acts).length = _
    rw [List.length_append, ih, List.length_cons]
    simp only [List.length_cons, List.length_nil]
    omega
theorem av_get (acts : List ActT) (i : Nat) (h : i < acts.length) : (av acts)[i * 3]? = some (.int .u8 acts[i].1) ∧ (av acts)[i * 3 + 1]? = some (.string acts[i].2.1) ∧ (av acts)[i * 3 + 2]? = some (.string acts[i].2.2) := by
  induction acts generalizing i with
  | nil => simp at h
  | cons a acts ih =>
    cases i with
    | zero => exact ⟨rfl, rfl, rfl⟩
    | succ i =>
      obtain ⟨h1, h2, h3⟩ := ih i (by simpa using h)
      have e : ∀ k, (av (a :: acts))[(i + 1) * 3 + k]? = (av acts)[i * 3 + k]? := fun k => by
        show ([Value.int .u8 a.1, .string a.2.1, .string a.2.2] ++ av acts)[(i + 1) * 3 + k]? = _
        rw [List.getElem?_append_right (by simp only [List.length_cons, List.length_nil]; omega)]
        congr 1
        simp only [List.length_cons, List.length_nil]
        omega
      exact ⟨(e 0).trans h1, (e 1).trans h2, (e 2).trans h3⟩
theorem acts_at {w : World} {B : Nat} {A : Option Addr} {acts : List ActT} (h : Mem w B A (av acts)) (hn : 0 < acts.length) : ∃ b off, A = some ⟨b, off, none⟩ ∧ b < B ∧
    ∀ i (hi : i < acts.length), w.cell? ⟨b, off + i * 3, none⟩ = some (.int .u8 acts[i].1) ∧ w.cell? ⟨b, off + i * 3 + 1, none⟩ = some (.string acts[i].2.1) ∧ w.cell? ⟨b, off + i * 3 + 2, none⟩ = some (.string acts[i].2.2) := by
  obtain ⟨b, off, e, hb, hc⟩ := h.get (by rw [av_len]; omega)
  refine ⟨b, off, e, hb, fun i hi => ?_⟩
  obtain ⟨h1, h2, h3⟩ := av_get acts i hi
  have hg : ∀ k v, (av acts)[i * 3 + k]? = some v → w.cell? ⟨b, off + (i * 3 + k), none⟩ = some v := fun k v hv => by
    obtain ⟨hlt, he⟩ := List.getElem?_eq_some_iff.1 hv
    rw [hc _ hlt, he]
  exact ⟨hg 0 _ h1, hg 1 _ h2, hg 2 _ h3⟩
/-- not too great -/
def Small (acts : List ActT) : Prop := acts.length ≤ 60 ∧ ∀ a ∈ acts, a.2.1.size ≤ 300 ∧ a.2.2.size ≤ 300
def GreatQ (acts : List ActT) (w : World) (e : Ending) (w' : World) : Prop := w = w' ∧ ∃ b, e = .returned (.bool b) ∧ (b = false → Small acts)
def GrI (acts : List ActT) (w : World) (j : Nat) (wr : World) : Prop := w = wr ∧ ∀ a ∈ acts.take j, a.2.1.size ≤ 300 ∧ a.2.2.size ≤ 300
set_option maxHeartbeats 2000000 in
set_option maxRecDepth 20000 in
theorem great_any (A : Option Addr) (c : Nat) (acts : List ActT) (w : World) (hm : Mem w w.heap.size A (av acts)) :
    Calls Tryz.prog 10 #[.slice A acts.length c] w (GreatQ acts w) := by
  have HM := hide hm
  clear hm
  by_cases hbig : 60 < acts.length
  · have hI : (60 : Int) < (acts.length : Int) := by omega
    clear hbig
    go_enter Tryz.func10, Tryz.ntmps10
    go_wp2_with fail
    go_ret
    exact ⟨rfl, true, rfl, fun h => by cases h⟩
  · have hI : ¬ (60 : Int) < (acts.length : Int) := by omega
    have HB := hide (show acts.length ≤ 60 by omega)
    clear hbig
    go_enter Tryz.func10, Tryz.ntmps10
    go_upto_region 4 with fail
    go_loopw [3] (fun x wr => ∃ j : Nat, j ≤ acts.length ∧ x = .int .i64 j ∧ GrI acts w j wr) (fun x _ => acts.length - (Go.RowKit.intOf x).toNat)
    case atStart => exact ⟨0, Nat.zero_le _, rfl, ⟨rfl, fun a h => by simp at h⟩⟩
    case round =>
      obtain ⟨j, hj, rfl, ⟨rfl, hall⟩⟩ := hrel
      have HAll := hide hall
      clear hall
      by_cases hlt : j < acts.length
      · obtain ⟨g, off, rfl, hg, hc⟩ := acts_at HM.out (by omega)
        obtain ⟨_, f1, f2⟩ := hc j hlt
        have HTk := hide (List.take_succ_eq_append_getElem hlt)
        generalize acts[j] = aj at *
        obtain ⟨dj, kj, vj⟩ := aj
        simp only at f1 f2
        clear hc
        by_cases h1 : 300 < kj.size
        · have h1I : (300 : Int) < (kj.size : Int) := by omega
          clear h1
          go_wp2_with fail
          go_ret
          exact ⟨rfl, true, rfl, fun h => by cases h⟩
        · have h1I : ¬ (300 : Int) < (kj.size : Int) := by omega
          by_cases h2 : 300 < vj.size
          · have h2I : (300 : Int) < (vj.size : Int) := by omega
            clear h1 h2
            go_wp2_with fail
            go_ret
            exact ⟨rfl, true, rfl, fun h => by cases h⟩
          · have h2I : ¬ (300 : Int) < (vj.size : Int) := by omega
            have HN := hide (show ∀ a ∈ acts.take (j + 1), a.2.1.size ≤ 300 ∧ a.2.2.size ≤ 300 from fun a ha => by
              rw [HTk.out, List.mem_append, List.mem_singleton] at ha
              rcases ha with ha | rfl
              · exact HAll.out a ha
              · exact ⟨Nat.le_of_not_lt h1, Nat.le_of_not_lt h2⟩)
            have HNum := hide (show Value.int IntKind.i64 ((j : Int) + 1) = .int .i64 ((j + 1 : Nat) : Int) from rfl)
            have HMs := hide (show acts.length - (Go.RowKit.intOf (Value.int IntKind.i64 ((j : Int) + 1))).toNat < acts.length - (Go.RowKit.intOf (Value.int IntKind.i64 (j : Int))).toNat by simp only [Go.RowKit.intOf]; omega)
            clear h1 h2 HTk
            go_wp2_with fail
            exact ⟨⟨j + 1, by omega, HNum.out, ⟨rfl, HN.out⟩⟩, HMs.out⟩
      · obtain rfl : j = acts.length := by omega
        have HS := hide (show Small acts from ⟨HB.out, fun a ha => HAll.out a (by rw [List.take_length]; exact ha)⟩)
        clear HAll
        go_wp2_with fail
        go_ret
        exact ⟨rfl, false, rfl, fun _ => HS.out⟩
end Go.Proofs.YtokibbgahefkbaaGreatDoor.Fe
namespace Go.Proofs.YtokibbgahefkbaaGreatDoor.Fe
open Go.RowKit Go.Shelf

/-- a book in its box -/
structure BSt (w wr : World) (B : Nat) (A : Option Addr) (c : Nat) (b : List Ent) : Prop where
  bel : Below w.heap.size w wr
  box : Whole wr B 25 [.slice A b.length c]
  mem : Mem wr wr.heap.size A (pv b)
  bk : Bk b
  d : w.heap.size ≤ B
theorem BSt.below {w wr w' : World} {B : Nat} {A : Option Addr} {c : Nat} {b : List Ent} (h : BSt w wr B A c b) (hb : Below wr.heap.size wr w') : BSt w w' B A c b :=
  ⟨h.bel.trans (hb.mono h.bel.size), h.box.below hb h.box.lt, (h.mem.below hb).mono hb.size, h.bk, h.d⟩
theorem BSt.put {w wr : World} {B : Nat} {A A' : Option Addr} {c c' : Nat} {b b' : List Ent} (h : BSt w wr B A c b) (hm : Mem wr wr.heap.size A' (pv b')) (hb : Bk b') : BSt w (wr.setCell ⟨B, 0, none⟩ (.slice A' b'.length c')) B A' c' b' :=
  ⟨h.bel.setCell (p := ⟨B, 0, none⟩) h.d _, h.box.set_ 0 _, (hm.give h.box (fun s e => by cases e)).mono (by simp), hb, h.d⟩
theorem encB_size {b : List Ent} (h : Bk b) : (strOfNums (encB b)).size ≤ 90000 := by
  have h1 := encP_len_le h.fit
  have h2 := h.len
  rw [ofNums_size]
  unfold encB
  rw [List.length_append, Pl.be_len]
  omega
set_option maxHeartbeats 8000000 in
set_option maxRecDepth 20000 in
theorem keepBack_any (A0 : Option Addr) (c0' : Nat) (acts : List ActT) (s : ByteArray) (w : World) (hm0 : Mem w w.heap.size A0 (av acts)) (hwk : Wak w) :
    Calls Tryz.prog 5 #[.slice A0 acts.length c0', .string s] w fun e w' => e = .returned (.bool true) ∧ Below w.heap.size w w' := by
  have HWk := hide hwk
  have HM0 := hide hm0
  have HGr := hide (great_any A0 c0' acts w hm0)
  clear hwk hm0
  go_enter Tryz.func5, Tryz.ntmps5
  go_wp2_with fail
  refine HGr.out.mono ?_
  rintro e w1 ⟨rfl, g, rfl, hsm⟩
  have HSm := hide hsm
  clear hsm HGr
  by_cases hbad : g = true ∨ 3000 < s.size
  · have HW := hide (HWk.out w (Below.refl _ _))
    rcases hbad with rfl | hbad
    · go_wp2_with fail
      refine HW.out.mono ?_
      rintro e w1 ⟨rfl, hb⟩
      have HB := hide hb
      clear hb
      go_wp2_with fail
      go_ret
      exact ⟨rfl, HB.out⟩
    · have hI : (3000 : Int) < (s.size : Int) := by omega
      clear hbad
      cases g with
      | true =>
        go_wp2_with fail
        refine HW.out.mono ?_
        rintro e w1 ⟨rfl, hb⟩
        have HB := hide hb
        clear hb
        go_wp2_with fail
        go_ret
        exact ⟨rfl, HB.out⟩
      | false =>
        go_wp2_with fail
        refine HW.out.mono ?_
        rintro e w1 ⟨rfl, hb⟩
        have HB := hide hb
        clear hb
        go_wp2_with fail
        go_ret
        exact ⟨rfl, HB.out⟩
  · obtain rfl : g = false := by cases g with
      | false => rfl
      | true => exact absurd (.inl rfl) hbad
    have hI : ¬ (3000 : Int) < (s.size : Int) := by omega
    have HTs := hide (fun w1 => keepTake_any s (by omega) w1)
    have hn60 := (HSm.out rfl).1
    clear hbad HSm
    go_upto_region 4 with fail
    have HSt0 := hide (show BSt w (w.alloc (.cells #[.slice none 0 0] 25)) w.heap.size none 0 [] from ⟨(Below.refl _ _).alloc (Nat.le_refl _) _, Whole.new w _ _, Mem.nil, Bk.nil, Nat.le_refl _⟩)
    generalize w.alloc (.cells #[.slice none 0 0] 25) = w1 at *
    generalize hB : w.heap.size = B at *
    have HBq := hide hB
    clear hB
    go_upto_region 5 with fail
    go_loopw [6] (fun x wr => ∃ (j : Nat) (b : List Ent) (A : Option Addr) (c : Nat), j ≤ acts.length ∧ x = .int .i64 j ∧ BSt w wr B A c b) (fun x _ => acts.length - (Go.RowKit.intOf x).toNat)
    case atStart => exact ⟨0, [], none, 0, Nat.zero_le _, rfl, HSt0.out⟩
    case round =>
      clear HSt0
      obtain ⟨j, b, A, c, hj, rfl, hst⟩ := hrel
      have HSt := hide hst
      clear hst
      by_cases hlt : j < acts.length
      · obtain ⟨g, off, rfl, hg, hc⟩ := acts_at HM0.out (by omega)
        have hg : g < w.heap.size := by rw [HBq.out]; exact hg
        obtain ⟨f0, f1, f2⟩ := hc j hlt
        generalize acts[j] = aj at *
        obtain ⟨dj, kj, vj⟩ := aj
        simp only at f0 f1 f2
        clear hc
        have q0 := (HSt.out.bel.cell (p := ⟨g, off + j * 3, none⟩) hg).trans f0
        have HNum := hide (show Value.int IntKind.i64 ((j : Int) + 1) = .int .i64 ((j + 1 : Nat) : Int) from rfl)
        have HMs := hide (show acts.length - (Go.RowKit.intOf (Value.int IntKind.i64 ((j : Int) + 1))).toNat < acts.length - (Go.RowKit.intOf (Value.int IntKind.i64 (j : Int))).toNat by simp only [Go.RowKit.intOf]; omega)
        by_cases hd : dj = 0
        · subst hd
          go_upto_region 8 with fail
          clear q0
          refine wp_region_held_drew (S := (fun w' => Below w.heap.size w w')) (by kernel_rfl) (HSt.out.bel.drew) (fun hHeld => ?_)
          have HT0 := hide (show BSt w wr.drew B A c b from HSt.out.below (Below.refl _ _).drew)
          generalize wr.drew = wd at *
          refine wpAnyH_take (i := 1) (v := ?vaq1) rfl (by kernel_rfl) (by kernel_rfl) (by kernel_rfl) (fun _ _ _ h => h) (Or.inl ⟨by rfl, ?haq1⟩) (by assumption) ?raq1
          case haq1 => (intro wq hSw; go_simp; (try with_reducible rfl))
          try simp only [Act.put, List.getElem_toArray, List.getElem_cons_zero, List.getElem_cons_succ, List.setIfInBounds_toArray, List.set_cons_zero, List.set_cons_succ]
          refine wpAnyH_take (i := 2) (v := ?vaq2) rfl (by kernel_rfl) (by kernel_rfl) (by kernel_rfl) (fun _ _ _ h => h) (Or.inl ⟨by rfl, ?haq2⟩) (by assumption) ?raq2
          case haq2 => (intro wq hSw; go_simp; (try with_reducible rfl))
          try simp only [Act.put, List.getElem_toArray, List.getElem_cons_zero, List.getElem_cons_succ, List.setIfInBounds_toArray, List.set_cons_zero, List.set_cons_succ]
          refine wpAnyH_take (i := 3) (v := ?vaq3) rfl (by kernel_rfl) (by kernel_rfl) (by kernel_rfl) (fun _ _ _ h => h) (Or.inl ⟨by rfl, ?haq3⟩) (by assumption) ?raq3
          case haq3 => (intro wq hSw; go_simp; (try with_reducible rfl))
          try simp only [Act.put, List.getElem_toArray, List.getElem_cons_zero, List.getElem_cons_succ, List.setIfInBounds_toArray, List.set_cons_zero, List.set_cons_succ]
          refine wpAnyH_take (i := 4) (v := ?vaq4) rfl (by kernel_rfl) (by kernel_rfl) (by kernel_rfl) (fun _ _ _ h => h) (Or.inl ⟨by rfl, ?haq4⟩) (by assumption) ?raq4
          case haq4 => (intro wq hSw; go_simp; (try with_reducible rfl))
          try simp only [Act.put, List.getElem_toArray, List.getElem_cons_zero, List.getElem_cons_succ, List.setIfInBounds_toArray, List.set_cons_zero, List.set_cons_succ]
          refine wpAnyH_take (i := 5) (v := ?vaq5) rfl (by kernel_rfl) (by kernel_rfl) (by kernel_rfl) (fun _ _ _ h => h) (Or.inl ⟨by rfl, ?haq5⟩) (by assumption) ?raq5
          case haq5 => (intro wq hSw; have e1 := (hSw.cell (p := ⟨g, off + j * 3 + 1, none⟩) hg).trans f1; go_simp; (try with_reducible rfl))
          try simp only [Act.put, List.getElem_toArray, List.getElem_cons_zero, List.getElem_cons_succ, List.setIfInBounds_toArray, List.set_cons_zero, List.set_cons_succ]
          refine wpAnyH_ready (rs := [0]) (by kernel_rfl) (by simp) ?_
          refine AllReadyH.cons (o := _) rfl (fun K hK => ?_) ?_
          · skip
            have y0 := HT0.out.box.cell 0
            simp only [List.getElem?_cons_zero] at y0
            go_simp
            refine hK.out _ _ (hHeld) (fun hHeld => ?_)
            clear hK K y0
            try simp only [Act.put, List.getElem_toArray, List.getElem_cons_zero, List.getElem_cons_succ, List.setIfInBounds_toArray, List.set_cons_zero, List.set_cons_succ]
            refine wpAnyH_ready (rs := [6]) (by kernel_rfl) (by simp) ?_
            refine AllReadyH.cons (o := _) rfl (fun K hK => ?_) ?_
            · skip
              go_simp
              have hcl := without_any A c b kj _ HT0.out.mem HT0.out.bk
              unfold bkV at hcl
              refine hcl.mono ?_
              rintro e wn1 ⟨A9, c9, rfl, hm9, hb9⟩
              unfold bkV
              have HT1 := hide (HT0.out.below hb9)
              have HM9 := hide hm9
              have HBk9 := hide (HT0.out.bk.del kj)
              clear hm9 hb9 hcl
              refine hK.out _ _ (HT1.out.bel) (fun hHeld => ?_)
              clear hK K 
              try simp only [Act.put, List.getElem_toArray, List.getElem_cons_zero, List.getElem_cons_succ, List.setIfInBounds_toArray, List.set_cons_zero, List.set_cons_succ]
              refine wpAnyH_ready (rs := [7]) (by kernel_rfl) (by simp) ?_
              refine AllReadyH.cons (o := _) rfl (fun K hK => ?_) ?_
              · skip
                have y0 := HT1.out.box.cell 0
                have yf := HT1.out.box.frozen 0
                simp only [List.getElem?_cons_zero] at y0
                go_simp
                have HTz := hide (HT1.out.put (c' := c9) HM9.out HBk9.out)
                generalize wn1.setCell ⟨B, 0, none⟩ (.slice A9 (delE b kj).length c9) = wz at *
                refine hK.out _ _ (HTz.out.bel) (fun hHeld => ?_)
                clear hK K y0 yf
                try simp only [Act.put, List.getElem_toArray, List.getElem_cons_zero, List.getElem_cons_succ, List.setIfInBounds_toArray, List.set_cons_zero, List.set_cons_succ]
                refine wpAnyH_done (by kernel_rfl) ?_ _
                have HS1 := hide HTz.out
                clear HM9 HBk9 hHeld
                go_wp2_with fail
                exact ⟨⟨j + 1, _, A9, c9, by omega, HNum.out, HS1.out⟩, HMs.out⟩
              exact AllReadyH.nil
            exact AllReadyH.nil
          exact AllReadyH.nil
        · have hdb : (dj == 0) = false := beq_false_of_ne hd
          go_upto_region 9 with fail
          clear q0 hd hdb
          refine wp_region_held_drew (S := (fun w' => Below w.heap.size w w')) (by kernel_rfl) (HSt.out.bel.drew) (fun hHeld => ?_)
          have HT0 := hide (show BSt w wr.drew B A c b from HSt.out.below (Below.refl _ _).drew)
          generalize wr.drew = wd at *
          refine wpAnyH_take (i := 1) (v := ?vbq1) rfl (by kernel_rfl) (by kernel_rfl) (by kernel_rfl) (fun _ _ _ h => h) (Or.inl ⟨by rfl, ?hbq1⟩) (by assumption) ?rbq1
          case hbq1 => (intro wq hSw; go_simp; (try with_reducible rfl))
          try simp only [Act.put, List.getElem_toArray, List.getElem_cons_zero, List.getElem_cons_succ, List.setIfInBounds_toArray, List.set_cons_zero, List.set_cons_succ]
          refine wpAnyH_take (i := 2) (v := ?vbq2) rfl (by kernel_rfl) (by kernel_rfl) (by kernel_rfl) (fun _ _ _ h => h) (Or.inl ⟨by rfl, ?hbq2⟩) (by assumption) ?rbq2
          case hbq2 => (intro wq hSw; go_simp; (try with_reducible rfl))
          try simp only [Act.put, List.getElem_toArray, List.getElem_cons_zero, List.getElem_cons_succ, List.setIfInBounds_toArray, List.set_cons_zero, List.set_cons_succ]
          refine wpAnyH_take (i := 3) (v := ?vbq3) rfl (by kernel_rfl) (by kernel_rfl) (by kernel_rfl) (fun _ _ _ h => h) (Or.inl ⟨by rfl, ?hbq3⟩) (by assumption) ?rbq3
          case hbq3 => (intro wq hSw; go_simp; (try with_reducible rfl))
          try simp only [Act.put, List.getElem_toArray, List.getElem_cons_zero, List.getElem_cons_succ, List.setIfInBounds_toArray, List.set_cons_zero, List.set_cons_succ]
          refine wpAnyH_take (i := 4) (v := ?vbq4) rfl (by kernel_rfl) (by kernel_rfl) (by kernel_rfl) (fun _ _ _ h => h) (Or.inl ⟨by rfl, ?hbq4⟩) (by assumption) ?rbq4
          case hbq4 => (intro wq hSw; go_simp; (try with_reducible rfl))
          try simp only [Act.put, List.getElem_toArray, List.getElem_cons_zero, List.getElem_cons_succ, List.setIfInBounds_toArray, List.set_cons_zero, List.set_cons_succ]
          refine wpAnyH_take (i := 5) (v := ?vbq5) rfl (by kernel_rfl) (by kernel_rfl) (by kernel_rfl) (fun _ _ _ h => h) (Or.inl ⟨by rfl, ?hbq5⟩) (by assumption) ?rbq5
          case hbq5 => (intro wq hSw; have e1 := (hSw.cell (p := ⟨g, off + j * 3 + 1, none⟩) hg).trans f1; go_simp; (try with_reducible rfl))
          try simp only [Act.put, List.getElem_toArray, List.getElem_cons_zero, List.getElem_cons_succ, List.setIfInBounds_toArray, List.set_cons_zero, List.set_cons_succ]
          refine wpAnyH_take (i := 6) (v := ?vbq6) rfl (by kernel_rfl) (by kernel_rfl) (by kernel_rfl) (fun _ _ _ h => h) (Or.inl ⟨by rfl, ?hbq6⟩) (by assumption) ?rbq6
          case hbq6 => (intro wq hSw; go_simp; (try with_reducible rfl))
          try simp only [Act.put, List.getElem_toArray, List.getElem_cons_zero, List.getElem_cons_succ, List.setIfInBounds_toArray, List.set_cons_zero, List.set_cons_succ]
          refine wpAnyH_take (i := 7) (v := ?vbq7) rfl (by kernel_rfl) (by kernel_rfl) (by kernel_rfl) (fun _ _ _ h => h) (Or.inl ⟨by rfl, ?hbq7⟩) (by assumption) ?rbq7
          case hbq7 => (intro wq hSw; go_simp; (try with_reducible rfl))
          try simp only [Act.put, List.getElem_toArray, List.getElem_cons_zero, List.getElem_cons_succ, List.setIfInBounds_toArray, List.set_cons_zero, List.set_cons_succ]
          refine wpAnyH_take (i := 8) (v := ?vbq8) rfl (by kernel_rfl) (by kernel_rfl) (by kernel_rfl) (fun _ _ _ h => h) (Or.inl ⟨by rfl, ?hbq8⟩) (by assumption) ?rbq8
          case hbq8 => (intro wq hSw; go_simp; (try with_reducible rfl))
          try simp only [Act.put, List.getElem_toArray, List.getElem_cons_zero, List.getElem_cons_succ, List.setIfInBounds_toArray, List.set_cons_zero, List.set_cons_succ]
          refine wpAnyH_take (i := 9) (v := ?vbq9) rfl (by kernel_rfl) (by kernel_rfl) (by kernel_rfl) (fun _ _ _ h => h) (Or.inl ⟨by rfl, ?hbq9⟩) (by assumption) ?rbq9
          case hbq9 => (intro wq hSw; go_simp; (try with_reducible rfl))
          try simp only [Act.put, List.getElem_toArray, List.getElem_cons_zero, List.getElem_cons_succ, List.setIfInBounds_toArray, List.set_cons_zero, List.set_cons_succ]
          refine wpAnyH_take (i := 10) (v := ?vbq10) rfl (by kernel_rfl) (by kernel_rfl) (by kernel_rfl) (fun _ _ _ h => h) (Or.inl ⟨by rfl, ?hbq10⟩) (by assumption) ?rbq10
          case hbq10 => (intro wq hSw; have e2 := (hSw.cell (p := ⟨g, off + j * 3 + 2, none⟩) hg).trans f2; go_simp; (try with_reducible rfl))
          try simp only [Act.put, List.getElem_toArray, List.getElem_cons_zero, List.getElem_cons_succ, List.setIfInBounds_toArray, List.set_cons_zero, List.set_cons_succ]
          refine wpAnyH_ready (rs := [0]) (by kernel_rfl) (by simp) ?_
          refine AllReadyH.cons (o := _) rfl (fun K hK => ?_) ?_
          · skip
            have y0 := HT0.out.box.cell 0
            simp only [List.getElem?_cons_zero] at y0
            go_simp
            refine hK.out _ _ (hHeld) (fun hHeld => ?_)
            clear hK K y0
            try simp only [Act.put, List.getElem_toArray, List.getElem_cons_zero, List.getElem_cons_succ, List.setIfInBounds_toArray, List.set_cons_zero, List.set_cons_succ]
            refine wpAnyH_ready (rs := [11]) (by kernel_rfl) (by simp) ?_
            refine AllReadyH.cons (o := _) rfl (fun K hK => ?_) ?_
            · skip
              go_simp
              have hcl := with_any A c b kj vj _ HT0.out.mem HT0.out.bk
              unfold bkV at hcl
              refine hcl.mono ?_
              rintro e wn1 ⟨A9, c9, rfl, hm9, hb9⟩
              unfold bkV
              have HT1 := hide (HT0.out.below hb9)
              have HM9 := hide hm9
              have HBk9 := hide (withL_bk (k := kj) (v := vj) HT0.out.bk)
              clear hm9 hb9 hcl
              refine hK.out _ _ (HT1.out.bel) (fun hHeld => ?_)
              clear hK K 
              try simp only [Act.put, List.getElem_toArray, List.getElem_cons_zero, List.getElem_cons_succ, List.setIfInBounds_toArray, List.set_cons_zero, List.set_cons_succ]
              refine wpAnyH_take (i := 12) (v := ?vbq11) rfl (by kernel_rfl) (by kernel_rfl) (by kernel_rfl) (fun _ _ _ h => h) (Or.inl ⟨by rfl, ?hbq11⟩) (by assumption) ?rbq11
              case hbq11 => (intro wq hSw; go_simp; (try with_reducible rfl))
              try simp only [Act.put, List.getElem_toArray, List.getElem_cons_zero, List.getElem_cons_succ, List.setIfInBounds_toArray, List.set_cons_zero, List.set_cons_succ]
              refine wpAnyH_take (i := 13) (v := ?vbq12) rfl (by kernel_rfl) (by kernel_rfl) (by kernel_rfl) (fun _ _ _ h => h) (Or.inl ⟨by rfl, ?hbq12⟩) (by assumption) ?rbq12
              case hbq12 => (intro wq hSw; go_simp; (try with_reducible rfl))
              try simp only [Act.put, List.getElem_toArray, List.getElem_cons_zero, List.getElem_cons_succ, List.setIfInBounds_toArray, List.set_cons_zero, List.set_cons_succ]
              refine wpAnyH_take (i := 14) (v := ?vbq13) rfl (by kernel_rfl) (by kernel_rfl) (by kernel_rfl) (fun _ _ _ h => h) (Or.inl ⟨by rfl, ?hbq13⟩) (by assumption) ?rbq13
              case hbq13 => (intro wq hSw; go_simp; (try with_reducible rfl))
              try simp only [Act.put, List.getElem_toArray, List.getElem_cons_zero, List.getElem_cons_succ, List.setIfInBounds_toArray, List.set_cons_zero, List.set_cons_succ]
              refine wpAnyH_ready (rs := [15]) (by kernel_rfl) (by simp) ?_
              refine AllReadyH.cons (o := _) rfl (fun K hK => ?_) ?_
              · skip
                have y0 := HT1.out.box.cell 0
                have yf := HT1.out.box.frozen 0
                simp only [List.getElem?_cons_zero] at y0
                go_simp
                have HTz := hide (HT1.out.put (c' := c9) HM9.out HBk9.out)
                generalize wn1.setCell ⟨B, 0, none⟩ (.slice A9 (withL b kj vj).length c9) = wz at *
                refine hK.out _ _ (HTz.out.bel) (fun hHeld => ?_)
                clear hK K y0 yf
                try simp only [Act.put, List.getElem_toArray, List.getElem_cons_zero, List.getElem_cons_succ, List.setIfInBounds_toArray, List.set_cons_zero, List.set_cons_succ]
                refine wpAnyH_done (by kernel_rfl) ?_ _
                have HS1 := hide HTz.out
                clear HM9 HBk9 hHeld
                go_wp2_with fail
                exact ⟨⟨j + 1, _, A9, c9, by omega, HNum.out, HS1.out⟩, HMs.out⟩
              exact AllReadyH.nil
            exact AllReadyH.nil
          exact AllReadyH.nil
      · obtain rfl : j = acts.length := by omega
        clear hlt
        have c0 := HSt.out.box.cell 0
        simp only [List.getElem?_cons_zero] at c0
        have HBy := hide (fun w1 (hb : Below wr.heap.size wr w1) => bytesB_any A c b w1 (HSt.out.below hb).mem HSt.out.bk)
        unfold bkV at HBy
        have HTb := hide (fun w1 => keepTake_any (strOfNums (encB b)) (encB_size HSt.out.bk) w1)
        have HTp := hide (show takeP (nS (strOfNums (encB b))) = some b by rw [nS_of (encB_byt HSt.out.bk), takeP_enc HSt.out.bk])
        go_wp2_with fail
        refine (HBy.out wr (Below.refl _ _)).mono ?_
        rintro e w2 ⟨rfl, hb2⟩
        have HB2 := hide hb2
        clear hb2
        generalize strOfNums (encB b) = sb at *
        go_wp2_with fail
        refine (HTb.out w2).mono ?_
        rintro e w3 ⟨A7, c7, b7, er7, rfl, hm7, hb3, hq7⟩
        obtain ⟨rfl, rfl⟩ : b7 = b ∧ er7 = 0 := by
          rcases hq7 with ⟨h1, rfl⟩ | ⟨h1, _⟩
          · exact ⟨Option.some.inj (h1.symm.trans HTp.out), rfl⟩
          · rw [HTp.out] at h1; cases h1
        unfold bkV
        clear hq7 HTb HTp c0
        have hb4 : Below w3.heap.size w3 (w3.alloc (.cells #[.slice A7 b7.length c7] 25)) := (Below.refl _ _).alloc (Nat.le_refl _) _
        have HX4 := hide (show Whole (w3.alloc (.cells #[.slice A7 b7.length c7] 25)) w3.heap.size 25 [.slice A7 b7.length c7] from Whole.new w3 _ _)
        have HM4 := hide ((hm7.below hb4).mono hb4.size)
        have HB4 := hide (HB2.out.trans (((hb3.trans (hb4.mono hb3.size))).mono HB2.out.size))
        clear hm7 hb3 hb4 HB2
        go_upto_region 11 with fail
        generalize w3.alloc (.cells #[.slice A7 b7.length c7] 25) = w4 at *
        generalize w3.heap.size = B7 at *
        go_wp2_with fail
        refine (HTs.out w4).mono ?_
        rintro e w5 ⟨A9, c9, b9, er9, rfl, hm9, hb5, hq9⟩
        unfold bkV
        have hb6 : Below w5.heap.size w5 (w5.alloc (.cells #[.slice A9 b9.length c9] 25)) := (Below.refl _ _).alloc (Nat.le_refl _) _
        have hb46 := hb5.trans (hb6.mono hb5.size)
        have HX6 := hide (show Whole (w5.alloc (.cells #[.slice A9 b9.length c9] 25)) w5.heap.size 25 [.slice A9 b9.length c9] from Whole.new w5 _ _)
        have HM6 := hide ((hm9.below hb6).mono hb6.size)
        have HX4' := hide (HX4.out.below hb46 HX4.out.lt)
        have HM4' := hide ((HM4.out.below hb46).mono hb46.size)
        have HB6 := hide (HB4.out.trans (hb46.mono HB4.out.size))
        have HSt6 := hide (HSt.out.below HB6.out)
        have HQ9 := hide hq9
        have HBk := hide HSt.out.bk
        clear hm9 hb5 hb6 hb46 hq9 HTs HX4 HM4 HB4 HSt HBy HB6
        go_upto_region 12 with fail
        generalize w5.alloc (.cells #[.slice A9 b9.length c9] 25) = w6 at *
        generalize w5.heap.size = B9 at *
        have HBy7 := hide (fun w' (hb : Below w6.heap.size w6 w') => bytesB_any A7 c7 b7 w' ((HM4'.out.below hb).mono hb.size) HBk.out)
        have HBy5 := hide (fun w' (hb : Below w6.heap.size w6 w') => bytesB_any A c b7 w' (HSt6.out.below hb).mem HBk.out)
        unfold bkV at HBy7 HBy5
        generalize strOfNums (encB b7) = s7 at *
        have k7 := HX4'.out.cell 0
        have k5 := HSt6.out.box.cell 0
        have k9 := HX6.out.cell 0
        simp only [List.getElem?_cons_zero] at k7 k5 k9
        have l7 := HX4'.out.lt
        have l5 := HSt6.out.box.lt
        have l9 := HX6.out.lt
        have HBw := hide HSt6.out.bel
        rcases HQ9.out with ⟨htk, rfl⟩ | ⟨_, rfl, rfl⟩
        · have HBy9 := hide (fun w' (hb : Below w6.heap.size w6 w') => bytesB_any A9 c9 b9 w' ((HM6.out.below hb).mono hb.size) (takeP_ok htk).1)
          have hse : strOfNums (encB b9) = s := nS_inj (by rw [nS_of (encB_byt (takeP_ok htk).1), (takeP_ok htk).2])
          rw [hse] at HBy9
          unfold bkV at HBy9
          clear htk hse HQ9 HX4' HX6 HSt6 HM4' HM6
          refine wp_region_held_drew (S := (fun w' => Below w6.heap.size w6 w')) (by kernel_rfl) ((Below.refl _ _).drew) (fun hHeld => ?_)
          generalize w6.drew = wd at *
          refine wpAnyH_take (i := 0) (v := ?vcq1) rfl (by kernel_rfl) (by kernel_rfl) (by kernel_rfl) (fun _ _ _ h => h) (Or.inl ⟨by rfl, ?hcq1⟩) (by assumption) ?rcq1
          case hcq1 => (intro wq hSw; go_simp; (try with_reducible rfl))
          try simp only [Act.put, List.getElem_toArray, List.getElem_cons_zero, List.setIfInBounds_toArray, List.set_cons_zero, List.set_cons_succ]
          refine wpAnyH_take (i := 1) (v := ?vcq2) rfl (by kernel_rfl) (by kernel_rfl) (by kernel_rfl) (fun _ _ _ h => h) (Or.inl ⟨by rfl, ?hcq2⟩) (by assumption) ?rcq2
          case hcq2 => (intro wq hSw; go_simp; (try with_reducible rfl))
          try simp only [Act.put, List.getElem_toArray, List.getElem_cons_zero, List.getElem_cons_succ, List.setIfInBounds_toArray, List.set_cons_zero, List.set_cons_succ]
          refine wpAnyH_take (i := 2) (v := ?vcq3) rfl (by kernel_rfl) (by kernel_rfl) (by kernel_rfl) (fun _ _ _ h => h) (Or.inl ⟨by rfl, ?hcq3⟩) (by assumption) ?rcq3
          case hcq3 => (intro wq hSw; go_simp; (try with_reducible rfl))
          try simp only [Act.put, List.getElem_toArray, List.getElem_cons_zero, List.getElem_cons_succ, List.setIfInBounds_toArray, List.set_cons_zero, List.set_cons_succ]
          refine wpAnyH_take (i := 3) (v := ?vcq4) rfl (by kernel_rfl) (by kernel_rfl) (by kernel_rfl) (fun _ _ _ h => h) (Or.inl ⟨by rfl, ?hcq4⟩) (by assumption) ?rcq4
          case hcq4 => (intro wq hSw; have e7 := (hSw.cell (p := ⟨B7, 0, none⟩) l7).trans k7; go_simp; (try with_reducible rfl))
          try simp only [Act.put, List.getElem_toArray, List.getElem_cons_zero, List.getElem_cons_succ, List.setIfInBounds_toArray, List.set_cons_zero, List.set_cons_succ]
          refine wpAnyH_take (i := 5) (v := ?vcq5) rfl (by kernel_rfl) (by kernel_rfl) (by kernel_rfl) (fun _ _ _ h => h) (Or.inl ⟨by rfl, ?hcq5⟩) (by assumption) ?rcq5
          case hcq5 => (intro wq hSw; have e5 := (hSw.cell (p := ⟨B, 0, none⟩) l5).trans k5; go_simp; (try with_reducible rfl))
          try simp only [Act.put, List.getElem_toArray, List.getElem_cons_zero, List.getElem_cons_succ, List.setIfInBounds_toArray, List.set_cons_zero, List.set_cons_succ]
          refine wpAnyH_ready (rs := [4]) (by kernel_rfl) (by simp) ?_
          refine AllReadyH.cons (o := _) rfl (fun K hK => ?_) ?_
          · skip
            go_simp
            refine (HBy7.out _ hHeld).mono ?_
            rintro e wn1 ⟨rfl, hbs⟩
            have HS1 := hide (hHeld.trans (hbs.mono hHeld.size))
            clear hbs
            refine hK.out _ _ (HS1.out) (fun hHeld => ?_)
            clear hK K 
            try simp only [Act.put, List.getElem_toArray, List.getElem_cons_zero, List.getElem_cons_succ, List.setIfInBounds_toArray, List.set_cons_zero, List.set_cons_succ]
            refine wpAnyH_ready (rs := [6]) (by kernel_rfl) (by simp) ?_
            refine AllReadyH.cons (o := _) rfl (fun K hK => ?_) ?_
            · skip
              go_simp
              refine (HBy5.out _ hHeld).mono ?_
              rintro e wn2 ⟨rfl, hbs⟩
              have HS2 := hide (hHeld.trans (hbs.mono hHeld.size))
              clear hbs
              refine hK.out _ _ (HS2.out) (fun hHeld => ?_)
              clear hK K 
              try simp only [Act.put, List.getElem_toArray, List.getElem_cons_zero, List.getElem_cons_succ, List.setIfInBounds_toArray, List.set_cons_zero, List.set_cons_succ]
              refine wpAnyH_take (i := 7) (v := ?vcq6) rfl (by kernel_rfl) (by kernel_rfl) (by kernel_rfl) (fun _ _ _ h => h) (Or.inl ⟨by rfl, ?hcq6⟩) (by assumption) ?rcq6
              case hcq6 => (intro wq hSw; go_simp; (try with_reducible rfl))
              try simp only [Act.put, List.getElem_toArray, List.getElem_cons_zero, List.getElem_cons_succ, List.setIfInBounds_toArray, List.set_cons_zero, List.set_cons_succ]
              refine wpAnyH_take (i := 8) (v := ?vcq7) rfl (by kernel_rfl) (by kernel_rfl) (by kernel_rfl) (fun _ _ _ h => h) (Or.inl ⟨by rfl, ?hcq7⟩) (by assumption) ?rcq7
              case hcq7 => (intro wq hSw; go_simp; (try with_reducible rfl))
              try simp only [Act.put, List.getElem_toArray, List.getElem_cons_zero, List.getElem_cons_succ, List.setIfInBounds_toArray, List.set_cons_zero, List.set_cons_succ]
              refine wpAnyH_take (i := 9) (v := ?vcq8) rfl (by kernel_rfl) (by kernel_rfl) (by kernel_rfl) (fun _ _ _ h => h) (Or.inl ⟨by rfl, ?hcq8⟩) (by assumption) ?rcq8
              case hcq8 => (intro wq hSw; go_simp; (try with_reducible rfl))
              try simp only [Act.put, List.getElem_toArray, List.getElem_cons_zero, List.getElem_cons_succ, List.setIfInBounds_toArray, List.set_cons_zero, List.set_cons_succ]
              refine wpAnyH_take (i := 10) (v := ?vcq9) rfl (by kernel_rfl) (by kernel_rfl) (by kernel_rfl) (fun _ _ _ h => h) (Or.inl ⟨by rfl, ?hcq9⟩) (by assumption) ?rcq9
              case hcq9 => (intro wq hSw; go_simp; (try with_reducible rfl))
              try simp only [Act.put, List.getElem_toArray, List.getElem_cons_zero, List.getElem_cons_succ, List.setIfInBounds_toArray, List.set_cons_zero, List.set_cons_succ]
              refine wpAnyH_take (i := 11) (v := ?vcq10) rfl (by kernel_rfl) (by kernel_rfl) (by kernel_rfl) (fun _ _ _ h => h) (Or.inl ⟨by rfl, ?hcq10⟩) (by assumption) ?rcq10
              case hcq10 => (intro wq hSw; go_simp; (try with_reducible rfl))
              try simp only [Act.put, List.getElem_toArray, List.getElem_cons_zero, List.getElem_cons_succ, List.setIfInBounds_toArray, List.set_cons_zero, List.set_cons_succ]
              refine wpAnyH_take (i := 12) (v := ?vcq11) rfl (by kernel_rfl) (by kernel_rfl) (by kernel_rfl) (fun _ _ _ h => h) (Or.inl ⟨by rfl, ?hcq11⟩) (by assumption) ?rcq11
              case hcq11 => (intro wq hSw; go_simp; (try with_reducible rfl))
              try simp only [Act.put, List.getElem_toArray, List.getElem_cons_zero, List.getElem_cons_succ, List.setIfInBounds_toArray, List.set_cons_zero, List.set_cons_succ]
              refine wpAnyH_take (i := 13) (v := ?vcq12) rfl (by kernel_rfl) (by kernel_rfl) (by kernel_rfl) (fun _ _ _ h => h) (Or.inl ⟨by rfl, ?hcq12⟩) (by assumption) ?rcq12
              case hcq12 => (intro wq hSw; have e9 := (hSw.cell (p := ⟨B9, 0, none⟩) l9).trans k9; go_simp; (try with_reducible rfl))
              try simp only [Act.put, List.getElem_toArray, List.getElem_cons_zero, List.getElem_cons_succ, List.setIfInBounds_toArray, List.set_cons_zero, List.set_cons_succ]
              refine wpAnyH_take (i := 15) (v := ?vcq13) rfl (by kernel_rfl) (by kernel_rfl) (by kernel_rfl) (fun _ _ _ h => h) (Or.inl ⟨by rfl, ?hcq13⟩) (by assumption) ?rcq13
              case hcq13 => (intro wq hSw; go_simp; (try with_reducible rfl))
              try simp only [Act.put, List.getElem_toArray, List.getElem_cons_zero, List.getElem_cons_succ, List.setIfInBounds_toArray, List.set_cons_zero, List.set_cons_succ]
              refine wpAnyH_ready (rs := [14]) (by kernel_rfl) (by simp) ?_
              refine AllReadyH.cons (o := _) rfl (fun K hK => ?_) ?_
              · skip
                go_simp
                refine (HBy9.out _ hHeld).mono ?_
                rintro e wn3 ⟨rfl, hbs⟩
                have HS3 := hide (hHeld.trans (hbs.mono hHeld.size))
                clear hbs
                refine hK.out _ _ (HS3.out) (fun hHeld => ?_)
                clear hK K 
                try simp only [Act.put, List.getElem_toArray, List.getElem_cons_zero, List.getElem_cons_succ, List.setIfInBounds_toArray, List.set_cons_zero, List.set_cons_succ]
                refine wpAnyH_take (i := 16) (v := ?vcq14) rfl (by kernel_rfl) (by kernel_rfl) (by kernel_rfl) (fun _ _ _ h => h) (Or.inl ⟨by rfl, ?hcq14⟩) (by assumption) ?rcq14
                case hcq14 => (intro wq hSw; go_simp; (try with_reducible rfl))
                try simp only [Act.put, List.getElem_toArray, List.getElem_cons_zero, List.getElem_cons_succ, List.setIfInBounds_toArray, List.set_cons_zero, List.set_cons_succ]
                refine wpAnyH_take (i := 17) (v := ?vcq15) rfl (by kernel_rfl) (by kernel_rfl) (by kernel_rfl) (fun _ _ _ h => h) (Or.inl ⟨by rfl, ?hcq15⟩) (by assumption) ?rcq15
                case hcq15 => (intro wq hSw; go_simp; (try with_reducible rfl))
                try simp only [Act.put, List.getElem_toArray, List.getElem_cons_zero, List.getElem_cons_succ, List.setIfInBounds_toArray, List.set_cons_zero, List.set_cons_succ]
                refine wpAnyH_take (i := 18) (v := ?vcq16) rfl (by kernel_rfl) (by kernel_rfl) (by kernel_rfl) (fun _ _ _ h => h) (Or.inl ⟨by rfl, ?hcq16⟩) (by assumption) ?rcq16
                case hcq16 => (intro wq hSw; go_simp; (try with_reducible rfl))
                try simp only [Act.put, List.getElem_toArray, List.getElem_cons_zero, List.getElem_cons_succ, List.setIfInBounds_toArray, List.set_cons_zero, List.set_cons_succ]
                refine wpAnyH_take (i := 19) (v := undef) rfl (by kernel_rfl) (by kernel_rfl) (by kernel_rfl) (fun _ _ _ h => h) (Or.inr ⟨by rfl, rfl⟩) (by assumption) ?_
                try simp only [Act.put, List.getElem_toArray, List.getElem_cons_zero, List.getElem_cons_succ, List.setIfInBounds_toArray, List.set_cons_zero, List.set_cons_succ]
                refine wpAnyH_take (i := 20) (v := undef) rfl (by kernel_rfl) (by kernel_rfl) (by kernel_rfl) (fun _ _ _ h => h) (Or.inr ⟨by rfl, rfl⟩) (by assumption) ?_
                try simp only [Act.put, List.getElem_toArray, List.getElem_cons_zero, List.getElem_cons_succ, List.setIfInBounds_toArray, List.set_cons_zero, List.set_cons_succ]
                refine wpAnyH_take (i := 21) (v := undef) rfl (by kernel_rfl) (by kernel_rfl) (by kernel_rfl) (fun _ _ _ h => h) (Or.inr ⟨by rfl, rfl⟩) (by assumption) ?_
                try simp only [Act.put, List.getElem_toArray, List.getElem_cons_zero, List.getElem_cons_succ, List.setIfInBounds_toArray, List.set_cons_zero, List.set_cons_succ]
                refine wpAnyH_take (i := 22) (v := undef) rfl (by kernel_rfl) (by kernel_rfl) (by kernel_rfl) (fun _ _ _ h => h) (Or.inr ⟨by rfl, rfl⟩) (by assumption) ?_
                try simp only [Act.put, List.getElem_toArray, List.getElem_cons_zero, List.getElem_cons_succ, List.setIfInBounds_toArray, List.set_cons_zero, List.set_cons_succ]
                refine wpAnyH_take (i := 23) (v := undef) rfl (by kernel_rfl) (by kernel_rfl) (by kernel_rfl) (fun _ _ _ h => h) (Or.inr ⟨by rfl, rfl⟩) (by assumption) ?_
                try simp only [Act.put, List.getElem_toArray, List.getElem_cons_zero, List.getElem_cons_succ, List.setIfInBounds_toArray, List.set_cons_zero, List.set_cons_succ]
                refine wpAnyH_take (i := 24) (v := undef) rfl (by kernel_rfl) (by kernel_rfl) (by kernel_rfl) (fun _ _ _ h => h) (Or.inr ⟨by rfl, rfl⟩) (by assumption) ?_
                try simp only [Act.put, List.getElem_toArray, List.getElem_cons_zero, List.getElem_cons_succ, List.setIfInBounds_toArray, List.set_cons_zero, List.set_cons_succ]
                refine wpAnyH_take (i := 25) (v := undef) rfl (by kernel_rfl) (by kernel_rfl) (by kernel_rfl) (fun _ _ _ h => h) (Or.inr ⟨by rfl, rfl⟩) (by assumption) ?_
                try simp only [Act.put, List.getElem_toArray, List.getElem_cons_zero, List.getElem_cons_succ, List.setIfInBounds_toArray, List.set_cons_zero, List.set_cons_succ]
                refine wpAnyH_take (i := 26) (v := ?vcq17) rfl (by kernel_rfl) (by kernel_rfl) (by kernel_rfl) (fun _ _ _ h => h) (Or.inl ⟨by rfl, ?hcq17⟩) (by assumption) ?rcq17
                case hcq17 => (intro wq hSw; go_simp; (try with_reducible rfl))
                try simp only [Act.put, List.getElem_toArray, List.getElem_cons_zero, List.getElem_cons_succ, List.setIfInBounds_toArray, List.set_cons_zero, List.set_cons_succ]
                refine wpAnyH_take (i := 27) (v := ?vcq18) rfl (by kernel_rfl) (by kernel_rfl) (by kernel_rfl) (fun _ _ _ h => h) (Or.inl ⟨by rfl, ?hcq18⟩) (by assumption) ?rcq18
                case hcq18 => (intro wq hSw; go_simp; (try with_reducible rfl))
                try simp only [Act.put, List.getElem_toArray, List.getElem_cons_zero, List.getElem_cons_succ, List.setIfInBounds_toArray, List.set_cons_zero, List.set_cons_succ]
                refine wpAnyH_take (i := 28) (v := ?vcq19) rfl (by kernel_rfl) (by kernel_rfl) (by kernel_rfl) (fun _ _ _ h => h) (Or.inl ⟨by rfl, ?hcq19⟩) (by assumption) ?rcq19
                case hcq19 => (intro wq hSw; go_simp; (try with_reducible rfl))
                try simp only [Act.put, List.getElem_toArray, List.getElem_cons_zero, List.getElem_cons_succ, List.setIfInBounds_toArray, List.set_cons_zero, List.set_cons_succ]
                refine wpAnyH_ready (rs := [29]) (by kernel_rfl) (by simp) ?_
                refine AllReadyH.cons (o := _) rfl (fun K hK => ?_) ?_
                · skip
                  go_simp
                  refine (HWk.out _ (HBw.out.trans (hHeld.mono HBw.out.size))).mono ?_
                  rintro e wn4 ⟨rfl, hbs⟩
                  have HS4 := hide (hHeld.trans (hbs.mono hHeld.size))
                  clear hbs
                  refine hK.out _ _ (HS4.out) (fun hHeld => ?_)
                  clear hK K 
                  try simp only [Act.put, List.getElem_toArray, List.getElem_cons_zero, List.getElem_cons_succ, List.setIfInBounds_toArray, List.set_cons_zero, List.set_cons_succ]
                  refine wpAnyH_take (i := 30) (v := ?vcq20) rfl (by kernel_rfl) (by kernel_rfl) (by kernel_rfl) (fun _ _ _ h => h) (Or.inl ⟨by rfl, ?hcq20⟩) (by assumption) ?rcq20
                  case hcq20 => (intro wq hSw; go_simp; (try with_reducible rfl))
                  try simp only [Act.put, List.getElem_toArray, List.getElem_cons_zero, List.getElem_cons_succ, List.setIfInBounds_toArray, List.set_cons_zero, List.set_cons_succ]
                  refine wpAnyH_take (i := 31) (v := ?vcq21) rfl (by kernel_rfl) (by kernel_rfl) (by kernel_rfl) (fun _ _ _ h => h) (Or.inl ⟨by rfl, ?hcq21⟩) (by assumption) ?rcq21
                  case hcq21 => (intro wq hSw; go_simp; (try with_reducible rfl))
                  try simp only [Act.put, List.getElem_toArray, List.getElem_cons_zero, List.getElem_cons_succ, List.setIfInBounds_toArray, List.set_cons_zero, List.set_cons_succ]
                  refine wpAnyH_done (by kernel_rfl) ?_ _
                  have HBe := hide (HBw.out.trans (hHeld.mono HBw.out.size))
                  clear hHeld
                  go_wp2_with fail
                  go_ret
                  exact ⟨rfl, HBe.out⟩
                exact AllReadyH.nil
              exact AllReadyH.nil
            exact AllReadyH.nil
          exact AllReadyH.nil
        · have HLn := hide (fun w' => len_any A9 ([] : List Ent).length c9 w')
          unfold bkV at HLn
          clear HQ9 HX4' HX6 HSt6 HM4' HM6
          refine wp_region_held_drew (S := (fun w' => Below w6.heap.size w6 w')) (by kernel_rfl) ((Below.refl _ _).drew) (fun hHeld => ?_)
          generalize w6.drew = wd at *
          refine wpAnyH_take (i := 0) (v := ?vdq1) rfl (by kernel_rfl) (by kernel_rfl) (by kernel_rfl) (fun _ _ _ h => h) (Or.inl ⟨by rfl, ?hdq1⟩) (by assumption) ?rdq1
          case hdq1 => (intro wq hSw; go_simp; (try with_reducible rfl))
          try simp only [Act.put, List.getElem_toArray, List.getElem_cons_zero, List.setIfInBounds_toArray, List.set_cons_zero, List.set_cons_succ]
          refine wpAnyH_take (i := 1) (v := ?vdq2) rfl (by kernel_rfl) (by kernel_rfl) (by kernel_rfl) (fun _ _ _ h => h) (Or.inl ⟨by rfl, ?hdq2⟩) (by assumption) ?rdq2
          case hdq2 => (intro wq hSw; go_simp; (try with_reducible rfl))
          try simp only [Act.put, List.getElem_toArray, List.getElem_cons_zero, List.getElem_cons_succ, List.setIfInBounds_toArray, List.set_cons_zero, List.set_cons_succ]
          refine wpAnyH_take (i := 2) (v := ?vdq3) rfl (by kernel_rfl) (by kernel_rfl) (by kernel_rfl) (fun _ _ _ h => h) (Or.inl ⟨by rfl, ?hdq3⟩) (by assumption) ?rdq3
          case hdq3 => (intro wq hSw; go_simp; (try with_reducible rfl))
          try simp only [Act.put, List.getElem_toArray, List.getElem_cons_zero, List.getElem_cons_succ, List.setIfInBounds_toArray, List.set_cons_zero, List.set_cons_succ]
          refine wpAnyH_take (i := 3) (v := ?vdq4) rfl (by kernel_rfl) (by kernel_rfl) (by kernel_rfl) (fun _ _ _ h => h) (Or.inl ⟨by rfl, ?hdq4⟩) (by assumption) ?rdq4
          case hdq4 => (intro wq hSw; have e7 := (hSw.cell (p := ⟨B7, 0, none⟩) l7).trans k7; go_simp; (try with_reducible rfl))
          try simp only [Act.put, List.getElem_toArray, List.getElem_cons_zero, List.getElem_cons_succ, List.setIfInBounds_toArray, List.set_cons_zero, List.set_cons_succ]
          refine wpAnyH_take (i := 5) (v := ?vdq5) rfl (by kernel_rfl) (by kernel_rfl) (by kernel_rfl) (fun _ _ _ h => h) (Or.inl ⟨by rfl, ?hdq5⟩) (by assumption) ?rdq5
          case hdq5 => (intro wq hSw; have e5 := (hSw.cell (p := ⟨B, 0, none⟩) l5).trans k5; go_simp; (try with_reducible rfl))
          try simp only [Act.put, List.getElem_toArray, List.getElem_cons_zero, List.getElem_cons_succ, List.setIfInBounds_toArray, List.set_cons_zero, List.set_cons_succ]
          refine wpAnyH_ready (rs := [4]) (by kernel_rfl) (by simp) ?_
          refine AllReadyH.cons (o := _) rfl (fun K hK => ?_) ?_
          · skip
            go_simp
            refine (HBy7.out _ hHeld).mono ?_
            rintro e wn1 ⟨rfl, hbs⟩
            have HS1 := hide (hHeld.trans (hbs.mono hHeld.size))
            clear hbs
            refine hK.out _ _ (HS1.out) (fun hHeld => ?_)
            clear hK K 
            try simp only [Act.put, List.getElem_toArray, List.getElem_cons_zero, List.getElem_cons_succ, List.setIfInBounds_toArray, List.set_cons_zero, List.set_cons_succ]
            refine wpAnyH_ready (rs := [6]) (by kernel_rfl) (by simp) ?_
            refine AllReadyH.cons (o := _) rfl (fun K hK => ?_) ?_
            · skip
              go_simp
              refine (HBy5.out _ hHeld).mono ?_
              rintro e wn2 ⟨rfl, hbs⟩
              have HS2 := hide (hHeld.trans (hbs.mono hHeld.size))
              clear hbs
              refine hK.out _ _ (HS2.out) (fun hHeld => ?_)
              clear hK K 
              try simp only [Act.put, List.getElem_toArray, List.getElem_cons_zero, List.getElem_cons_succ, List.setIfInBounds_toArray, List.set_cons_zero, List.set_cons_succ]
              refine wpAnyH_take (i := 7) (v := ?vdq6) rfl (by kernel_rfl) (by kernel_rfl) (by kernel_rfl) (fun _ _ _ h => h) (Or.inl ⟨by rfl, ?hdq6⟩) (by assumption) ?rdq6
              case hdq6 => (intro wq hSw; go_simp; (try with_reducible rfl))
              try simp only [Act.put, List.getElem_toArray, List.getElem_cons_zero, List.getElem_cons_succ, List.setIfInBounds_toArray, List.set_cons_zero, List.set_cons_succ]
              refine wpAnyH_take (i := 8) (v := ?vdq7) rfl (by kernel_rfl) (by kernel_rfl) (by kernel_rfl) (fun _ _ _ h => h) (Or.inl ⟨by rfl, ?hdq7⟩) (by assumption) ?rdq7
              case hdq7 => (intro wq hSw; go_simp; (try with_reducible rfl))
              try simp only [Act.put, List.getElem_toArray, List.getElem_cons_zero, List.getElem_cons_succ, List.setIfInBounds_toArray, List.set_cons_zero, List.set_cons_succ]
              refine wpAnyH_take (i := 9) (v := ?vdq8) rfl (by kernel_rfl) (by kernel_rfl) (by kernel_rfl) (fun _ _ _ h => h) (Or.inl ⟨by rfl, ?hdq8⟩) (by assumption) ?rdq8
              case hdq8 => (intro wq hSw; go_simp; (try with_reducible rfl))
              try simp only [Act.put, List.getElem_toArray, List.getElem_cons_zero, List.getElem_cons_succ, List.setIfInBounds_toArray, List.set_cons_zero, List.set_cons_succ]
              refine wpAnyH_take (i := 10) (v := ?vdq9) rfl (by kernel_rfl) (by kernel_rfl) (by kernel_rfl) (fun _ _ _ h => h) (Or.inl ⟨by rfl, ?hdq9⟩) (by assumption) ?rdq9
              case hdq9 => (intro wq hSw; go_simp; (try with_reducible rfl))
              try simp only [Act.put, List.getElem_toArray, List.getElem_cons_zero, List.getElem_cons_succ, List.setIfInBounds_toArray, List.set_cons_zero, List.set_cons_succ]
              refine wpAnyH_take (i := 11) (v := ?vdq10) rfl (by kernel_rfl) (by kernel_rfl) (by kernel_rfl) (fun _ _ _ h => h) (Or.inl ⟨by rfl, ?hdq10⟩) (by assumption) ?rdq10
              case hdq10 => (intro wq hSw; go_simp; (try with_reducible rfl))
              try simp only [Act.put, List.getElem_toArray, List.getElem_cons_zero, List.getElem_cons_succ, List.setIfInBounds_toArray, List.set_cons_zero, List.set_cons_succ]
              refine wpAnyH_take (i := 12) (v := ?vdq11) rfl (by kernel_rfl) (by kernel_rfl) (by kernel_rfl) (fun _ _ _ h => h) (Or.inl ⟨by rfl, ?hdq11⟩) (by assumption) ?rdq11
              case hdq11 => (intro wq hSw; go_simp; (try with_reducible rfl))
              try simp only [Act.put, List.getElem_toArray, List.getElem_cons_zero, List.getElem_cons_succ, List.setIfInBounds_toArray, List.set_cons_zero, List.set_cons_succ]
              refine wpAnyH_take (i := 13) (v := undef) rfl (by kernel_rfl) (by kernel_rfl) (by kernel_rfl) (fun _ _ _ h => h) (Or.inr ⟨by rfl, rfl⟩) (by assumption) ?_
              try simp only [Act.put, List.getElem_toArray, List.getElem_cons_zero, List.getElem_cons_succ, List.setIfInBounds_toArray, List.set_cons_zero, List.set_cons_succ]
              refine wpAnyH_take (i := 14) (v := undef) rfl (by kernel_rfl) (by kernel_rfl) (by kernel_rfl) (fun _ _ _ h => h) (Or.inr ⟨by rfl, rfl⟩) (by assumption) ?_
              try simp only [Act.put, List.getElem_toArray, List.getElem_cons_zero, List.getElem_cons_succ, List.setIfInBounds_toArray, List.set_cons_zero, List.set_cons_succ]
              refine wpAnyH_take (i := 15) (v := undef) rfl (by kernel_rfl) (by kernel_rfl) (by kernel_rfl) (fun _ _ _ h => h) (Or.inr ⟨by rfl, rfl⟩) (by assumption) ?_
              try simp only [Act.put, List.getElem_toArray, List.getElem_cons_zero, List.getElem_cons_succ, List.setIfInBounds_toArray, List.set_cons_zero, List.set_cons_succ]
              refine wpAnyH_take (i := 16) (v := undef) rfl (by kernel_rfl) (by kernel_rfl) (by kernel_rfl) (fun _ _ _ h => h) (Or.inr ⟨by rfl, rfl⟩) (by assumption) ?_
              try simp only [Act.put, List.getElem_toArray, List.getElem_cons_zero, List.getElem_cons_succ, List.setIfInBounds_toArray, List.set_cons_zero, List.set_cons_succ]
              refine wpAnyH_take (i := 17) (v := ?vdq12) rfl (by kernel_rfl) (by kernel_rfl) (by kernel_rfl) (fun _ _ _ h => h) (Or.inl ⟨by rfl, ?hdq12⟩) (by assumption) ?rdq12
              case hdq12 => (intro wq hSw; go_simp; (try with_reducible rfl))
              try simp only [Act.put, List.getElem_toArray, List.getElem_cons_zero, List.getElem_cons_succ, List.setIfInBounds_toArray, List.set_cons_zero, List.set_cons_succ]
              refine wpAnyH_take (i := 18) (v := ?vdq13) rfl (by kernel_rfl) (by kernel_rfl) (by kernel_rfl) (fun _ _ _ h => h) (Or.inl ⟨by rfl, ?hdq13⟩) (by assumption) ?rdq13
              case hdq13 => (intro wq hSw; go_simp; (try with_reducible rfl))
              try simp only [Act.put, List.getElem_toArray, List.getElem_cons_zero, List.getElem_cons_succ, List.setIfInBounds_toArray, List.set_cons_zero, List.set_cons_succ]
              refine wpAnyH_take (i := 19) (v := ?vdq14) rfl (by kernel_rfl) (by kernel_rfl) (by kernel_rfl) (fun _ _ _ h => h) (Or.inl ⟨by rfl, ?hdq14⟩) (by assumption) ?rdq14
              case hdq14 => (intro wq hSw; go_simp; (try with_reducible rfl))
              try simp only [Act.put, List.getElem_toArray, List.getElem_cons_zero, List.getElem_cons_succ, List.setIfInBounds_toArray, List.set_cons_zero, List.set_cons_succ]
              refine wpAnyH_take (i := 20) (v := ?vdq15) rfl (by kernel_rfl) (by kernel_rfl) (by kernel_rfl) (fun _ _ _ h => h) (Or.inl ⟨by rfl, ?hdq15⟩) (by assumption) ?rdq15
              case hdq15 => (intro wq hSw; go_simp; (try with_reducible rfl))
              try simp only [Act.put, List.getElem_toArray, List.getElem_cons_zero, List.getElem_cons_succ, List.setIfInBounds_toArray, List.set_cons_zero, List.set_cons_succ]
              refine wpAnyH_take (i := 21) (v := ?vdq16) rfl (by kernel_rfl) (by kernel_rfl) (by kernel_rfl) (fun _ _ _ h => h) (Or.inl ⟨by rfl, ?hdq16⟩) (by assumption) ?rdq16
              case hdq16 => (intro wq hSw; go_simp; (try with_reducible rfl))
              try simp only [Act.put, List.getElem_toArray, List.getElem_cons_zero, List.getElem_cons_succ, List.setIfInBounds_toArray, List.set_cons_zero, List.set_cons_succ]
              refine wpAnyH_take (i := 22) (v := ?vdq17) rfl (by kernel_rfl) (by kernel_rfl) (by kernel_rfl) (fun _ _ _ h => h) (Or.inl ⟨by rfl, ?hdq17⟩) (by assumption) ?rdq17
              case hdq17 => (intro wq hSw; have e9 := (hSw.cell (p := ⟨B9, 0, none⟩) l9).trans k9; go_simp; (try with_reducible rfl))
              try simp only [Act.put, List.getElem_toArray, List.getElem_cons_zero, List.getElem_cons_succ, List.setIfInBounds_toArray, List.set_cons_zero, List.set_cons_succ]
              refine wpAnyH_ready (rs := [23]) (by kernel_rfl) (by simp) ?_
              refine AllReadyH.cons (o := _) rfl (fun K hK => ?_) ?_
              · skip
                go_simp
                refine (HLn.out _).mono ?_
                rintro e wn3 ⟨rfl, hbs⟩
                have HS3 := hide (hHeld.trans (hbs.mono hHeld.size))
                clear hbs
                refine hK.out _ _ (HS3.out) (fun hHeld => ?_)
                clear hK K 
                try simp only [Act.put, List.getElem_toArray, List.getElem_cons_zero, List.getElem_cons_succ, List.setIfInBounds_toArray, List.set_cons_zero, List.set_cons_succ]
                refine wpAnyH_take (i := 24) (v := ?vdq18) rfl (by kernel_rfl) (by kernel_rfl) (by kernel_rfl) (fun _ _ _ h => h) (Or.inl ⟨by rfl, ?hdq18⟩) (by assumption) ?rdq18
                case hdq18 => (intro wq hSw; go_simp; (try with_reducible rfl))
                try simp only [Act.put, List.getElem_toArray, List.getElem_cons_zero, List.getElem_cons_succ, List.setIfInBounds_toArray, List.set_cons_zero, List.set_cons_succ]
                refine wpAnyH_take (i := 25) (v := ?vdq19) rfl (by kernel_rfl) (by kernel_rfl) (by kernel_rfl) (fun _ _ _ h => h) (Or.inl ⟨by rfl, ?hdq19⟩) (by assumption) ?rdq19
                case hdq19 => (intro wq hSw; go_simp; (try with_reducible rfl))
                try simp only [Act.put, List.getElem_toArray, List.getElem_cons_zero, List.getElem_cons_succ, List.setIfInBounds_toArray, List.set_cons_zero, List.set_cons_succ]
                refine wpAnyH_take (i := 26) (v := ?vdq20) rfl (by kernel_rfl) (by kernel_rfl) (by kernel_rfl) (fun _ _ _ h => h) (Or.inl ⟨by rfl, ?hdq20⟩) (by assumption) ?rdq20
                case hdq20 => (intro wq hSw; go_simp; (try with_reducible rfl))
                try simp only [Act.put, List.getElem_toArray, List.getElem_cons_zero, List.getElem_cons_succ, List.setIfInBounds_toArray, List.set_cons_zero, List.set_cons_succ]
                refine wpAnyH_take (i := 27) (v := ?vdq21) rfl (by kernel_rfl) (by kernel_rfl) (by kernel_rfl) (fun _ _ _ h => h) (Or.inl ⟨by rfl, ?hdq21⟩) (by assumption) ?rdq21
                case hdq21 => (intro wq hSw; go_simp; (try with_reducible rfl))
                try simp only [Act.put, List.getElem_toArray, List.getElem_cons_zero, List.getElem_cons_succ, List.setIfInBounds_toArray, List.set_cons_zero, List.set_cons_succ]
                refine wpAnyH_take (i := 28) (v := ?vdq22) rfl (by kernel_rfl) (by kernel_rfl) (by kernel_rfl) (fun _ _ _ h => h) (Or.inl ⟨by rfl, ?hdq22⟩) (by assumption) ?rdq22
                case hdq22 => (intro wq hSw; go_simp; (try with_reducible rfl))
                try simp only [Act.put, List.getElem_toArray, List.getElem_cons_zero, List.getElem_cons_succ, List.setIfInBounds_toArray, List.set_cons_zero, List.set_cons_succ]
                refine wpAnyH_ready (rs := [29]) (by kernel_rfl) (by simp) ?_
                refine AllReadyH.cons (o := _) rfl (fun K hK => ?_) ?_
                · skip
                  go_simp
                  refine (HWk.out _ (HBw.out.trans (hHeld.mono HBw.out.size))).mono ?_
                  rintro e wn4 ⟨rfl, hbs⟩
                  have HS4 := hide (hHeld.trans (hbs.mono hHeld.size))
                  clear hbs
                  refine hK.out _ _ (HS4.out) (fun hHeld => ?_)
                  clear hK K 
                  try simp only [Act.put, List.getElem_toArray, List.getElem_cons_zero, List.getElem_cons_succ, List.setIfInBounds_toArray, List.set_cons_zero, List.set_cons_succ]
                  refine wpAnyH_take (i := 30) (v := ?vdq23) rfl (by kernel_rfl) (by kernel_rfl) (by kernel_rfl) (fun _ _ _ h => h) (Or.inl ⟨by rfl, ?hdq23⟩) (by assumption) ?rdq23
                  case hdq23 => (intro wq hSw; go_simp; (try with_reducible rfl))
                  try simp only [Act.put, List.getElem_toArray, List.getElem_cons_zero, List.getElem_cons_succ, List.setIfInBounds_toArray, List.set_cons_zero, List.set_cons_succ]
                  refine wpAnyH_take (i := 31) (v := ?vdq24) rfl (by kernel_rfl) (by kernel_rfl) (by kernel_rfl) (fun _ _ _ h => h) (Or.inl ⟨by rfl, ?hdq24⟩) (by assumption) ?rdq24
                  case hdq24 => (intro wq hSw; go_simp; (try with_reducible rfl))
                  try simp only [Act.put, List.getElem_toArray, List.getElem_cons_zero, List.getElem_cons_succ, List.setIfInBounds_toArray, List.set_cons_zero, List.set_cons_succ]
                  refine wpAnyH_done (by kernel_rfl) ?_ _
                  have HBe := hide (HBw.out.trans (hHeld.mono HBw.out.size))
                  clear hHeld
                  go_wp2_with fail
                  go_ret
                  exact ⟨rfl, HBe.out⟩
                exact AllReadyH.nil
              exact AllReadyH.nil
            exact AllReadyH.nil
          exact AllReadyH.nil
end Go.Proofs.YtokibbgahefkbaaGreatDoor.Fe
namespace Go.Proofs.YtokibbgahefkbaaGreatDoor.Fe
open Go.ChangeShapes Go.WideShapes Go.RowKit Go.Deep

theorem mem_of {W : World} {a : Addr} {xs : List Value} (hc : ∀ i (h : i < xs.length), W.cell? (a.add i) = some xs[i]) : Mem W W.heap.size (some a) xs := by
  intro h0
  have h := hc 0 h0
  obtain ⟨b, off, spot⟩ := a
  cases spot with
  | some s =>
    exfalso
    unfold World.cell? Addr.add at h
    simp only [if_true] at h
    split at h <;> simp at h
  | none =>
    refine ⟨b, off, rfl, ?_, fun i hi => ?_⟩
    · by_cases hb : b < W.heap.size
      · exact hb
      · exfalso
        unfold World.cell? Addr.add at h
        simp [Array.getElem?_eq_none (Nat.le_of_not_lt hb)] at h
    · have h2 := hc i hi
      unfold Addr.add at h2
      split at h2
      · rename_i e; subst e; exact h2
      · exact h2
section
variable {H : Type} {enc : TypeId × Value → H} {W : World}
set_option maxRecDepth 100000 in
theorem open_acts {n : Nat} {v : Value} {x : DataW H × List MemPlace} (h : DataW.trod enc Tryz.prog W 0 (fun _ => true) true n 35 [v] = some x) :
    ∃ (A : Option Addr) (acts : List ActT) (cap : Nat), v = .slice A acts.length cap ∧ Mem W W.heap.size A (av acts) := by
  rcases open_slice Tryz.underlying35 h with ⟨hcs, _⟩ | ⟨a, len, cap, m, n', D, Pl, hcs, _, hl, _, hm, _, hx⟩
  · injection hcs with hcs
    exact ⟨none, [], 0, hcs, Mem.nil⟩
  · injection hcs with hcs
    simp only [if_true] at hm
    have each : ∀ i, i < len → ∃ q : ActT, W.cell? (a.add (i * 3)) = some (.int .u8 q.1) ∧ W.cell? (a.add (i * 3 + 1)) = some (.string q.2.1) ∧ W.cell? (a.add (i * 3 + 2)) = some (.string q.2.2) := by
      intro i hi
      obtain ⟨cs', h1, h2⟩ := hx i (by omega)
      rw [show Tryz.prog.cellsOf 40 = 3 by kernel_rfl] at h1
      obtain ⟨_, hlen, hcell⟩ := World.cells?_some h1
      obtain ⟨xs, k, hk, hxy, _, hxl, hf⟩ := DataW.trod_struct Tryz.underlying40 h2
      match xs, hxl, cs', hlen with
      | [y0, y1, y2], _, [v0, v1, v2], _ =>
        have g0 : DataW.trod enc Tryz.prog W 0 (fun _ => true) true k 5 (([v0, v1, v2].drop 0).take (Tryz.prog.cellsOf 5)) = some y0 := hf 0 _ rfl
        have g1 : DataW.trod enc Tryz.prog W 0 (fun _ => true) true k 9 (([v0, v1, v2].drop 1).take (Tryz.prog.cellsOf 9)) = some y1 := hf 1 _ rfl
        have g2 : DataW.trod enc Tryz.prog W 0 (fun _ => true) true k 9 (([v0, v1, v2].drop 2).take (Tryz.prog.cellsOf 9)) = some y2 := hf 2 _ rfl
        rw [show Tryz.prog.cellsOf 5 = 1 by kernel_rfl] at g0
        rw [show Tryz.prog.cellsOf 9 = 1 by kernel_rfl] at g1 g2
        have e0 := hcell 0 (by omega)
        have e1 := hcell 1 (by omega)
        have e2 := hcell 2 (by omega)
        rw [add_add] at e0 e1 e2
        obtain ⟨z0, k0, _, _⟩ := DataW.trod_int Tryz.underlying5 (show DataW.trod enc Tryz.prog W 0 (fun _ => true) true k 5 [v0] = _ from g0)
        obtain ⟨s1, k1, _⟩ := DataW.trod_string Tryz.underlying9 (show DataW.trod enc Tryz.prog W 0 (fun _ => true) true k 9 [v1] = _ from g1)
        obtain ⟨s2, k2, _⟩ := DataW.trod_string Tryz.underlying9 (show DataW.trod enc Tryz.prog W 0 (fun _ => true) true k 9 [v2] = _ from g2)
        injection k0 with k0
        injection k1 with k1
        injection k2 with k2
        subst k0 k1 k2
        exact ⟨(z0, s1, s2), by simpa using e0, by simpa using e1, by simpa using e2⟩
    obtain ⟨q, hq⟩ := choose_lt each
    have hlen : ((List.range len).map q).length = len := by simp
    refine ⟨some a, (List.range len).map q, cap, by rw [hlen]; exact hcs, mem_of fun i hi => ?_⟩
    rw [av_len, hlen] at hi
    obtain ⟨g0, g1, g2⟩ := av_get ((List.range len).map q) (i / 3) (by rw [hlen]; omega)
    obtain ⟨c0, c1, c2⟩ := hq (i / 3) (by omega)
    have hgi : ((List.range len).map q)[i / 3]'(by rw [hlen]; omega) = q (i / 3) := by simp
    rw [hgi] at g0 g1 g2
    have fin : ∀ u, (av ((List.range len).map q))[i]? = some u → W.cell? (a.add i) = some u → W.cell? (a.add i) = some ((av ((List.range len).map q))[i]'(by rw [av_len, hlen]; exact hi)) := fun u h1 h2 => by
      rw [List.getElem?_eq_getElem (by rw [av_len, hlen]; exact hi)] at h1
      rw [h2, ← h1]
    have h3 : i % 3 = 0 ∨ i % 3 = 1 ∨ i % 3 = 2 := by omega
    rcases h3 with hp | hp | hp
    · rw [show i / 3 * 3 = i by omega] at c0 g0
      exact fin _ g0 c0
    · rw [show i / 3 * 3 + 1 = i by omega] at c1 g1
      exact fin _ g1 c1
    · rw [show i / 3 * 3 + 2 = i by omega] at c2 g2
      exact fin _ g2 c2
set_option maxRecDepth 100000 in
theorem open_actsArg {n0 : Nat} {v : Value} {d : DataW H} {ps : List MemPlace} (hv : Value.okWide Tryz.prog W .any n0 35 v) (h : DataW.Trod enc Tryz.prog W 0 (fun _ => true) true 35 v d ps) :
    ∃ (A : Option Addr) (acts : List ActT) (cap : Nat), v = .slice A acts.length cap ∧ Mem W W.heap.size A (av acts) := by
  obtain ⟨a, len, cap, rfl⟩ := okWide_slice Tryz.underlying35 hv
  obtain ⟨fuel, hf⟩ := h
  exact open_acts hf
end
end Go.Proofs.YtokibbgahefkbaaGreatDoor.Fe
