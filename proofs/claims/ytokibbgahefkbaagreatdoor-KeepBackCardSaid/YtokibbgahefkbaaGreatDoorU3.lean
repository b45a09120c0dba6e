/- Walk of package keep: a book's bytes. Walks of package pack: an opener that asks for more than there is, or has failed; Name of whatever bytes. Walk of package keep: the book of bytes. -/
import Derived.Test.YtokibbgahefkbaaGreatDoorU2
import Derived.Test.YtokibbgahefkbaaGreatDoorU1
import Derived.Deep.RegionHeld
set_option linter.all false
namespace Go.Proofs.YtokibbgahefkbaaGreatDoor.Fe
open Go.RowKit Go.Shelf

/-- a packer of the call's own -/
structure PkS (w wr : World) (bp : Nat) (xs : List Int) : Prop where
  ex : ∃ v, Pk wr bp v xs ∧ ∀ k, pkF bp v k → w.heap.size ≤ k
  bel : Below w.heap.size w wr
theorem PkS.put {w wr w' : World} {bp : Nat} {v : Value} {zs : List Int} {e : Ending} (hb : Below w.heap.size w wr) (hv : ∀ k, pkF bp v k → w.heap.size ≤ k) (h : PutRes bp v zs wr e w') : e = .returned (.pointer (some ⟨bp, 0, none⟩)) ∧ PkS w w' bp zs := by
  obtain ⟨v', h1, h2, h3, h4⟩ := h
  exact ⟨h1, ⟨v', h2, fun k hk => (h4 k hk).elim (hv k) (fun h => Nat.le_trans hb.size h)⟩, hb.trans (h3.below hb.size hv)⟩
theorem PkS.below {w wr w' : World} {bp : Nat} {xs : List Int} (h : PkS w wr bp xs) (hb : Below wr.heap.size wr w') : PkS w w' bp xs := by
  obtain ⟨⟨v, h1, h2⟩, h3⟩ := h
  exact ⟨⟨v, h1.below hb, h2⟩, h3.trans (hb.mono h3.size)⟩
theorem bs_nS (s : ByteArray) : bs s = nS s := rfl
theorem PkS.lt {w wr : World} {bp : Nat} {xs : List Int} (h : PkS w wr bp xs) : w.heap.size ≤ bp ∧ bp < wr.heap.size := by
  obtain ⟨⟨v, h1, h2⟩, h3⟩ := h
  exact ⟨h2 bp (.inl rfl), h1.lt (.inl rfl)⟩
/-- a box of another type is none of a packer's blocks -/
theorem own_far {w : World} {bp b : Nat} {v : Value} {xs : List Int} {k u : ByteArray} (h : Pk w bp v xs) (hx : Whole w b 86 [.string k, .string u]) : ¬ pkF bp v b := by
  rintro (rfl | h2)
  · have h3 : w.heap[b]? = some (.cells #[v, .int .i64 0] 139 (0, 0)) := h.box
    have h4 : w.heap[b]? = some (.cells #[.string k, .string u] 86 (0, 0)) := hx
    rw [h3] at h4
    injection h4 with h4
    injection h4 with _ h4
    exact absurd h4 (by decide)
  · exact own_ne h.own hx (by decide) h2
theorem encE_take (es : List Ent) (j : Nat) (h : j < es.length) : encP (es.take (j + 1)) = encP (es.take j) ++ (encN es[j].1 ++ encN es[j].2) := by
  rw [List.take_succ_eq_append_getElem h, encP_app]
  simp [encP, encE]
theorem bk_len {es : List Ent} (h : Bk es) (j : Nat) : (Pl.be 2 es.length ++ encP (es.take j)).length ≤ 8000 := by
  have h1 := encP_len_le (es := es.take j) (fun e he => h.fit e (List.mem_of_mem_take he))
  have h2 := h.len
  rw [List.length_take] at h1
  rw [List.length_append, Pl.be_len]
  omega
set_option maxHeartbeats 4000000 in
set_option maxRecDepth 20000 in
theorem bytesB_any (A : Option Addr) (c : Nat) (es : List Ent) (w : World) (hm : Mem w w.heap.size A (pv es)) (hb : Bk es) :
    Calls Tryz.prog 18 #[bkV A es.length c] w fun e w' => e = .returned (.string (strOfNums (encB es))) ∧ Below w.heap.size w w' := by
  have hl := hb.len
  have HM := hide hm
  have HBk := hide hb
  have hw := Whole.new w [Value.slice A es.length c] 25
  have hb1 : Below w.heap.size w (w.alloc (.cells #[Value.slice A es.length c] 25)) := (Below.refl _ _).alloc (Nat.le_refl _) _
  have hz1 : (w.alloc (.cells #[Value.slice A es.length c] 25)).heap.size = w.heap.size + 1 := by simp
  have hwr : IntKind.u64.wrap (es.length : Int) = (es.length : Int) := by rw [IntKind.wrap_u64]; omega
  change Whole (w.alloc (.cells #[Value.slice A es.length c] 25)) _ _ _ at hw
  have HW := hide hw
  have HB1 := hide hb1
  have HZ1 := hide hz1
  clear hm hb hw hb1 hz1
  unfold bkV
  go_enter Tryz.func18, Tryz.ntmps18
  go_upto_region 1 with fail
  generalize w.alloc (.cells #[Value.slice A es.length c] 25) = w1 at *
  have hz1 := HZ1.out
  have c0 : w1.cell? ⟨w.heap.size, 0, none⟩ = some (.slice A es.length c) := HW.out.cell 0
  refine wp_region_held_drew (S := (fun w' => Below w1.heap.size w1 w')) (by kernel_rfl) ((Below.refl _ _).drew) (fun hHeld => ?_)
  generalize w1.drew = wd at *
  refine wpAnyH_take (i := 1) (v := ?vaq1) rfl (by kernel_rfl) (by kernel_rfl) (by kernel_rfl) (fun _ _ _ h => h) (Or.inl ⟨by rfl, ?haq1⟩) (by assumption) ?raq1
  case haq1 => (intro wq hSw; go_simp; (try with_reducible rfl))
  try simp only [Act.put, List.getElem_toArray, List.getElem_cons_zero, List.getElem_cons_succ, List.setIfInBounds_toArray, List.set_cons_zero, List.set_cons_succ]
  refine wpAnyH_take (i := 2) (v := ?vaq2) rfl (by kernel_rfl) (by kernel_rfl) (by kernel_rfl) (fun _ _ _ h => h) (Or.inl ⟨by rfl, ?haq2⟩) (by assumption) ?raq2
  case haq2 => (intro wq hSw; have e0 := (hSw.cell (p := ⟨w.heap.size, 0, none⟩) (by show w.heap.size < w1.heap.size; omega)).trans c0; go_simp; (try with_reducible rfl))
  try simp only [Act.put, List.getElem_toArray, List.getElem_cons_zero, List.getElem_cons_succ, List.setIfInBounds_toArray, List.set_cons_zero, List.set_cons_succ]
  refine wpAnyH_take (i := 3) (v := ?vaq3) rfl (by kernel_rfl) (by kernel_rfl) (by kernel_rfl) (fun _ _ _ h => h) (Or.inl ⟨by rfl, ?haq3⟩) (by assumption) ?raq3
  case haq3 => (intro wq hSw; go_simp; (try with_reducible rfl))
  try simp only [Act.put, List.getElem_toArray, List.getElem_cons_zero, List.getElem_cons_succ, List.setIfInBounds_toArray, List.set_cons_zero, List.set_cons_succ]
  refine wpAnyH_take (i := 4) (v := ?vaq4) rfl (by kernel_rfl) (by kernel_rfl) (by kernel_rfl) (fun _ _ _ h => h) (Or.inl ⟨by rfl, ?haq4⟩) (by assumption) ?raq4
  case haq4 => (intro wq hSw; go_simp; (try with_reducible rfl))
  try simp only [Act.put, List.getElem_toArray, List.getElem_cons_zero, List.getElem_cons_succ, List.setIfInBounds_toArray, List.set_cons_zero, List.set_cons_succ]
  refine wpAnyH_ready (rs := [0]) (by kernel_rfl) (by simp) ?_
  refine AllReadyH.cons (o := _) rfl (fun K hK => ?_) ?_
  · skip
    go_simp
    refine (new_any _).mono ?_
    rintro e ws ⟨rfl, rfl⟩
    have HP1 := hide (show PkS w1 (wd.alloc (.cells #[.slice none 0 0, .int .i64 0] 139)) wd.heap.size [] from ⟨⟨_, Pk.new wd, fun k hk => hk.elim (fun h => by rw [h]; exact hHeld.size) (fun h => by cases h)⟩, hHeld.alloc hHeld.size _⟩)
    have HH1 := hide (HP1.out.bel)
    generalize wd.alloc (.cells #[.slice none 0 0, .int .i64 0] 139) = w2 at *
    generalize wd.heap.size = bp at *
    refine hK.out _ _ (HH1.out) (fun hHeld => ?_)
    clear hK K 
    try simp only [Act.put, List.getElem_toArray, List.getElem_cons_zero, List.getElem_cons_succ, List.setIfInBounds_toArray, List.set_cons_zero, List.set_cons_succ]
    refine wpAnyH_ready (rs := [5]) (by kernel_rfl) (by simp) ?_
    refine AllReadyH.cons (o := _) rfl (fun K hK => ?_) ?_
    · skip
      go_simp
      obtain ⟨v2, hpk2, hv2⟩ := HP1.out.ex
      refine (put_go bp v2 [] 2 (es.length : Int) w2 hpk2 (by decide) (.inr (.inl rfl)) (by omega) (by omega)).mono ?_
      rintro e w3 hr
      obtain ⟨rfl, hp⟩ := PkS.put HP1.out.bel hv2 hr
      have HP2 := hide hp
      clear hr hp hpk2 hv2
      refine hK.out _ _ (HP2.out.bel) (fun hHeld => ?_)
      clear hK K 
      try simp only [Act.put, List.getElem_toArray, List.getElem_cons_zero, List.getElem_cons_succ, List.setIfInBounds_toArray, List.set_cons_zero, List.set_cons_succ]
      refine wpAnyH_take (i := 6) (v := ?vaq5) rfl (by kernel_rfl) (by kernel_rfl) (by kernel_rfl) (fun _ _ _ h => h) (Or.inl ⟨by rfl, ?haq5⟩) (by assumption) ?raq5
      case haq5 => (intro wq hSw; go_simp; (try with_reducible rfl))
      try simp only [Act.put, List.getElem_toArray, List.getElem_cons_zero, List.getElem_cons_succ, List.setIfInBounds_toArray, List.set_cons_zero, List.set_cons_succ]
      refine wpAnyH_done (by kernel_rfl) ?_ _
      clear HP1 HH1 hHeld
      have c1 : w3.cell? ⟨w.heap.size, 0, none⟩ = some (.slice A es.length c) := (HP2.out.bel.cell (p := ⟨w.heap.size, 0, none⟩) (by show w.heap.size < w1.heap.size; omega)).trans c0
      clear c0
      go_upto_region 3 with fail
      go_loopw [17] (fun x wr => ∃ j : Nat, j ≤ es.length ∧ x = .int .i64 j ∧ PkS w1 wr bp (Pl.be 2 es.length ++ encP (es.take j))) (fun x _ => es.length - (Go.RowKit.intOf x).toNat)
      case atStart => exact ⟨0, Nat.zero_le _, rfl, by simpa [encP] using HP2.out⟩
      case round =>
        obtain ⟨j, hj, rfl, hps⟩ := hrel
        have HPs := hide hps
        clear hps HP2 c1
        by_cases hlt : j < es.length
        · obtain ⟨g, off, rfl, hg, hc⟩ := prs_at (HM.out.below (HB1.out.trans (HPs.out.bel.mono HB1.out.size))) (by omega)
          obtain ⟨f0, f1⟩ := hc j hlt
          have hft := HBk.out.fit es[j] (List.getElem_mem hlt)
          have HT := hide (encE_take es j hlt)
          have HLn := hide (bk_len HBk.out j)
          obtain ⟨hk0, hk1, hk2⟩ := hft
          generalize es[j] = ej at *
          obtain ⟨kj, vj⟩ := ej
          simp only at hk0 hk1 hk2
          generalize hps : Pl.be 2 es.length ++ encP (es.take j) = ps at *
          have HPe := hide hps
          clear hps hc
          have hwx := Whole.new wr [.string kj, .string vj] 86
          have HX := hide hwx
          have HPx := hide (HPs.out.below ((Below.refl wr.heap.size wr).alloc (Nat.le_refl _) (.cells #[.string kj, .string vj] 86)))
          change Whole (wr.alloc (.cells #[.string kj, .string vj] 86)) _ _ _ at hwx
          clear hwx
          go_wp2_with fail
          generalize wr.alloc (.cells #[.string kj, .string vj] 86) = wx at *
          refine wp_region_held_drew (S := (fun w' => Whole w' wr.heap.size 86 [.string kj, .string vj])) (by kernel_rfl) (HX.out) (fun hHeld => ?_)
          have HFar0 := hide (show ∀ v, Pk wx.drew bp v ps → ¬ pkF bp v wr.heap.size from fun v h1 h2 => own_far h1 HX.out h2)
          have HPx := hide (show PkS w1 wx.drew bp ps from HPx.out.below (Below.refl _ _).drew)
          generalize wx.drew = wd at *
          refine wpAnyH_take (i := 0) (v := ?vbq1) rfl (by kernel_rfl) (by kernel_rfl) (by kernel_rfl) (fun _ _ _ h => h) (Or.inl ⟨by rfl, ?hbq1⟩) (by assumption) ?rbq1
          case hbq1 => (intro wq hSw; go_simp; (try with_reducible rfl))
          try simp only [Act.put, List.getElem_toArray, List.getElem_cons_zero, List.setIfInBounds_toArray, List.set_cons_zero, List.set_cons_succ]
          refine wpAnyH_take (i := 1) (v := ?vbq2) rfl (by kernel_rfl) (by kernel_rfl) (by kernel_rfl) (fun _ _ _ h => h) (Or.inl ⟨by rfl, ?hbq2⟩) (by assumption) ?rbq2
          case hbq2 => (intro wq hSw; go_simp; (try with_reducible rfl))
          try simp only [Act.put, List.getElem_toArray, List.getElem_cons_zero, List.getElem_cons_succ, List.setIfInBounds_toArray, List.set_cons_zero, List.set_cons_succ]
          refine wpAnyH_take (i := 2) (v := ?vbq3) rfl (by kernel_rfl) (by kernel_rfl) (by kernel_rfl) (fun _ _ _ h => h) (Or.inl ⟨by rfl, ?hbq3⟩) (by assumption) ?rbq3
          case hbq3 => (intro wq hSw; have e0 := hSw.cell 0; simp only [List.getElem?_cons_zero] at e0; go_simp; (try with_reducible rfl))
          try simp only [Act.put, List.getElem_toArray, List.getElem_cons_zero, List.getElem_cons_succ, List.setIfInBounds_toArray, List.set_cons_zero, List.set_cons_succ]
          refine wpAnyH_take (i := 4) (v := ?vbq4) rfl (by kernel_rfl) (by kernel_rfl) (by kernel_rfl) (fun _ _ _ h => h) (Or.inl ⟨by rfl, ?hbq4⟩) (by assumption) ?rbq4
          case hbq4 => (intro wq hSw; go_simp; (try with_reducible rfl))
          try simp only [Act.put, List.getElem_toArray, List.getElem_cons_zero, List.getElem_cons_succ, List.setIfInBounds_toArray, List.set_cons_zero, List.set_cons_succ]
          refine wpAnyH_take (i := 5) (v := ?vbq5) rfl (by kernel_rfl) (by kernel_rfl) (by kernel_rfl) (fun _ _ _ h => h) (Or.inl ⟨by rfl, ?hbq5⟩) (by assumption) ?rbq5
          case hbq5 => (intro wq hSw; have e1 := hSw.cell 1; simp only [List.getElem?_cons_zero, List.getElem?_cons_succ] at e1; go_simp; (try with_reducible rfl))
          try simp only [Act.put, List.getElem_toArray, List.getElem_cons_zero, List.getElem_cons_succ, List.setIfInBounds_toArray, List.set_cons_zero, List.set_cons_succ]
          refine wpAnyH_ready (rs := [3]) (by kernel_rfl) (by simp) ?_
          refine AllReadyH.cons (o := _) rfl (fun K hK => ?_) ?_
          · skip
            go_simp
            obtain ⟨v1, hpk1, hv1⟩ := HPx.out.ex
            refine (name_any bp v1 _ kj wd hpk1 (by have := HLn.out; omega) (by omega)).mono ?_
            rintro e wn1 hr
            obtain ⟨rfl, hp⟩ := PkS.put HPx.out.bel hv1 hr
            obtain ⟨_, _, _, hkp, _⟩ := hr
            have hXn := hHeld.kp hkp (fun h => HFar0.out _ hpk1 h)
            have HFar1 := hide (show ∀ v, Pk wn1 bp v (ps ++ (kj.size : Int) :: bs kj) → ¬ pkF bp v wr.heap.size from fun v h1 h2 => own_far h1 hXn h2)
            have HPn1 := hide hp
            clear hp hkp hpk1 hv1
            refine hK.out _ _ (hXn) (fun hHeld => ?_)
            clear hK K hXn
            try simp only [Act.put, List.getElem_toArray, List.getElem_cons_zero, List.getElem_cons_succ, List.setIfInBounds_toArray, List.set_cons_zero, List.set_cons_succ]
            refine wpAnyH_ready (rs := [6]) (by kernel_rfl) (by simp) ?_
            refine AllReadyH.cons (o := _) rfl (fun K hK => ?_) ?_
            · skip
              go_simp
              obtain ⟨v2, hpk2, hv2⟩ := HPn1.out.ex
              refine (name_any bp v2 _ vj wn1 hpk2 (by have := HLn.out; rw [List.length_append, List.length_cons, bs_len]; omega) (by omega)).mono ?_
              rintro e wn2 hr
              obtain ⟨rfl, hp⟩ := PkS.put HPn1.out.bel hv2 hr
              obtain ⟨_, _, _, hkp, _⟩ := hr
              have hXn := hHeld.kp hkp (fun h => HFar1.out _ hpk2 h)
              have HFar2 := hide (show ∀ v, Pk wn2 bp v (ps ++ (kj.size : Int) :: bs kj ++ (vj.size : Int) :: bs vj) → ¬ pkF bp v wr.heap.size from fun v h1 h2 => own_far h1 hXn h2)
              have HPn2 := hide hp
              clear hp hkp hpk2 hv2
              refine hK.out _ _ (hXn) (fun hHeld => ?_)
              clear hK K hXn
              try simp only [Act.put, List.getElem_toArray, List.getElem_cons_zero, List.getElem_cons_succ, List.setIfInBounds_toArray, List.set_cons_zero, List.set_cons_succ]
              refine wpAnyH_done (by kernel_rfl) ?_ _
              have HNe := hide (show ps ++ (kj.size : Int) :: bs kj ++ (vj.size : Int) :: bs vj = Pl.be 2 es.length ++ encP (es.take (j + 1)) by rw [HT.out, ← HPe.out]; simp only [List.append_assoc, bs_nS]; rfl)
              have HPz := hide (show PkS w1 wn2 bp (Pl.be 2 es.length ++ encP (es.take (j + 1))) by rw [← HNe.out]; exact HPn2.out)
              clear HPn1 HPn2 HFar0 HFar1 HFar2 hHeld
              go_wp2_with fail
              go_roundw
              case rel => exact ⟨j + 1, by omega, by go_num, HPz.out⟩
              case measure => (try simp [Go.RowKit.intOf]); omega
            exact AllReadyH.nil
          exact AllReadyH.nil
        · obtain rfl : j = es.length := by omega
          have hps := HPs.out
          rw [List.take_length] at hps
          obtain ⟨v, hpk, hv⟩ := hps.ex
          have HBy := hide (bytes_any bp v (encB es) wr hpk (by have := bk_len HBk.out es.length; rw [List.take_length] at this; exact Nat.le_trans this (by decide)))
          have HBe := hide hps.bel
          clear hps hpk hv
          go_wp2_with fail
          refine HBy.out.mono ?_
          rintro e w4 ⟨v', rfl, ho, hb4⟩
          obtain ⟨A4, c4, rfl⟩ := owns_slice ho
          have hcv := conv_str (owns_mem ho) c4
          have HB4 := hide (HB1.out.trans ((HBe.out.trans (hb4.mono HBe.out.size)).mono HB1.out.size))
          clear ho hb4
          go_wp2_with fail
          go_ret
          exact ⟨rfl, HB4.out⟩
    exact AllReadyH.nil
  exact AllReadyH.nil
end Go.Proofs.YtokibbgahefkbaaGreatDoor.Fe
namespace Go.Proofs.YtokibbgahefkbaaGreatDoor.Fe
open Go.RowKit Go.Shelf

set_option maxHeartbeats 1000000 in
set_option maxRecDepth 20000 in
theorem takeS_bad (bo g : Nat) (A : Option Addr) (c : Nat) (n : Int) (f : Value) (xs : List Int) (err : Int) (he : err ≠ 0) (w : World) (h : Opn w bo g A c xs err) :
    Calls Tryz.prog 94 #[.pointer (some ⟨bo, 0, none⟩), .int .i64 n, f] w fun e w' => e = .returned (.string ByteArray.empty) ∧ w = w' := by
  have c1 := h.box.cell 1
  simp only [List.getElem?_cons_zero, List.getElem?_cons_succ] at c1
  have hne : (err == 0) = false := beq_false_of_ne he
  clear h
  go_enter Tryz.func94, Tryz.ntmps94
  go_wp2_with fail
  go_ret
  exact ⟨rfl, rfl⟩
set_option maxHeartbeats 1000000 in
set_option maxRecDepth 20000 in
theorem takeS_neg (bo g : Nat) (A : Option Addr) (c : Nat) (f : Value) (xs : List Int) (w : World) (h : Opn w bo g A c xs 0) :
    Calls Tryz.prog 94 #[.pointer (some ⟨bo, 0, none⟩), .int .i64 (-1), f] w fun e w' => e = .returned (.string ByteArray.empty) ∧ Opn w' bo g A c xs 3 ∧ Kp (OnlyF bo) w w' := by
  have c0 := h.box.cell 0
  have c1 := h.box.cell 1
  have f1 := h.box.frozen 1
  have HO := hide (show Opn (w.setCell ⟨bo, 1, none⟩ (.int .i64 3)) bo g A c xs 3 from ⟨h.box.set_ 1 (.int .i64 3), h.mem.set_ h.ne 1 _, h.cap, h.ne⟩)
  clear h
  go_enter Tryz.func94, Tryz.ntmps94
  go_wp2_with fail
  go_ret
  exact ⟨rfl, HO.out, Kp.set_only _ _ _ _⟩
set_option maxHeartbeats 1000000 in
set_option maxRecDepth 20000 in
theorem takeU_bad (bo g : Nat) (A : Option Addr) (c : Nat) (n : Int) (f : Value) (xs : List Int) (err : Int) (he : err ≠ 0) (w : World) (h : Opn w bo g A c xs err) :
    Calls Tryz.prog 60 #[.pointer (some ⟨bo, 0, none⟩), .int .i64 n, f] w fun e w' => e = .returned (.int .u64 0) ∧ w = w' := by
  have c1 := h.box.cell 1
  simp only [List.getElem?_cons_zero, List.getElem?_cons_succ] at c1
  have hne : (err == 0) = false := beq_false_of_ne he
  clear h
  go_enter Tryz.func60, Tryz.ntmps60
  go_wp2_with fail
  go_ret
  exact ⟨rfl, rfl⟩
set_option maxHeartbeats 1000000 in
set_option maxRecDepth 20000 in
theorem takeU_far (bo g : Nat) (A : Option Addr) (c : Nat) (n : Int) (f : Value) (xs : List Int) (w : World) (h : Opn w bo g A c xs 0) (hn : (xs.length : Int) < n) :
    Calls Tryz.prog 60 #[.pointer (some ⟨bo, 0, none⟩), .int .i64 n, f] w fun e w' => e = .returned (.int .u64 0) ∧ Opn w' bo g A c xs 3 ∧ Kp (OnlyF bo) w w' := by
  have c0 := h.box.cell 0
  have c1 := h.box.cell 1
  have f1 := h.box.frozen 1
  have HO := hide (show Opn (w.setCell ⟨bo, 1, none⟩ (.int .i64 3)) bo g A c xs 3 from ⟨h.box.set_ 1 (.int .i64 3), h.mem.set_ h.ne 1 _, h.cap, h.ne⟩)
  have h0 : ¬ n < 0 := by omega
  clear h
  go_enter Tryz.func60, Tryz.ntmps60
  go_wp2_with fail
  go_ret
  exact ⟨rfl, HO.out, Kp.set_only _ _ _ _⟩
set_option maxHeartbeats 1000000 in
theorem take_far (bo g : Nat) (A : Option Addr) (c k : Nat) (xs : List Int) (w : World) (h : Opn w bo g A c xs 0) (hk : k = 1 ∨ k = 2) (hn : xs.length < k) :
    Calls Tryz.prog 25 #[.pointer (some ⟨bo, 0, none⟩), .int .i64 k] w fun e w' => e = .returned (.int .u64 0) ∧ OpnTo w bo g xs 3 w' := by
  have HT := hide (takeU_far bo g A c k (.func (.func 61) #[] #[]) xs w h (by omega))
  have HW := fun (n : Int) W => hide (wide_any n W)
  clear h
  have hw : Pl.wide k = true := by rcases hk with rfl | rfl <;> rfl
  clear hk
  go_enter Tryz.func25, Tryz.ntmps25
  go_wp2_with (go_at_call 59; refine (HW _ _).out.mono ?_; rintro e w1 ⟨rfl, rfl⟩)
  refine HT.out.mono ?_
  rintro e w2 ⟨rfl, hr, hk⟩
  have HR := hide hr
  have HK := hide hk
  clear hr hk
  go_wp2_with fail
  go_ret
  exact ⟨rfl, _, _, HR.out, HK.out⟩
set_option maxHeartbeats 1000000 in
theorem take1_bad (bo g : Nat) (A : Option Addr) (c : Nat) (xs : List Int) (err : Int) (he : err ≠ 0) (w : World) (h : Opn w bo g A c xs err) :
    Calls Tryz.prog 25 #[.pointer (some ⟨bo, 0, none⟩), .int .i64 1] w fun e w' => e = .returned (.int .u64 0) ∧ w = w' := by
  have HT := hide (takeU_bad bo g A c 1 (.func (.func 61) #[] #[]) xs err he w h)
  have HW := fun (n : Int) W => hide (wide_any n W)
  clear h
  have hw : Pl.wide 1 = true := rfl
  go_enter Tryz.func25, Tryz.ntmps25
  go_wp2_with (go_at_call 59; refine (HW _ _).out.mono ?_; rintro e w1 ⟨rfl, rfl⟩)
  refine HT.out.mono ?_
  rintro e w2 ⟨rfl, rfl⟩
  go_wp2_with fail
  go_ret
  exact ⟨rfl, rfl⟩
set_option maxHeartbeats 1000000 in
theorem otext_bad (bo g : Nat) (A : Option Addr) (c : Nat) (n : Int) (xs : List Int) (err : Int) (he : err ≠ 0) (w : World) (h : Opn w bo g A c xs err) :
    Calls Tryz.prog 63 #[.pointer (some ⟨bo, 0, none⟩), .int .i64 n] w fun e w' => e = .returned (.string ByteArray.empty) ∧ w = w' := by
  have HT := hide (takeS_bad bo g A c n (.func (.func 95) #[] #[]) xs err he w h)
  clear h
  go_enter Tryz.func63, Tryz.ntmps63
  go_wp2_with fail
  refine HT.out.mono ?_
  rintro e w2 ⟨rfl, rfl⟩
  go_wp2_with fail
  go_ret
  exact ⟨rfl, rfl⟩
set_option maxHeartbeats 1000000 in
theorem otext_neg (bo g : Nat) (A : Option Addr) (c : Nat) (xs : List Int) (w : World) (h : Opn w bo g A c xs 0) :
    Calls Tryz.prog 63 #[.pointer (some ⟨bo, 0, none⟩), .int .i64 (-1)] w fun e w' => e = .returned (.string ByteArray.empty) ∧ OpnTo w bo g xs 3 w' := by
  have HT := hide (takeS_neg bo g A c (.func (.func 95) #[] #[]) xs w h)
  clear h
  go_enter Tryz.func63, Tryz.ntmps63
  go_wp2_with fail
  refine HT.out.mono ?_
  rintro e w2 ⟨rfl, hr, hk⟩
  have HR := hide hr
  have HK := hide hk
  clear hr hk
  go_wp2_with fail
  go_ret
  exact ⟨rfl, _, _, HR.out, HK.out⟩
/-- a name that is not there: an error, and no text -/
def NoName (bo g : Nat) (xs : List Int) (w : World) (e : Ending) (w' : World) : Prop := e = .returned (.string ByteArray.empty) ∧ ∃ err, err ≠ 0 ∧ OpnTo w bo g xs err w'
theorem Opn.toD {w : World} {bo g : Nat} {A : Option Addr} {c : Nat} {xs : List Int} {err : Int} (h : Opn w bo g A c xs err) (n : Nat) : Opn (w.drewN n) bo g A c xs err := h.kp ((Kp.refl NoF _).drewN n) (fun h => h.elim) (fun h => h.elim)
set_option maxHeartbeats 1000000 in
set_option maxRecDepth 20000 in
/-- Name: its first byte says more than is left -/
theorem oname_far (bo g : Nat) (A : Option Addr) (c : Nat) (n : Nat) (xs : List Int) (w : World) (h : Opn w bo g A c ((n : Int) :: xs) 0) (hn : xs.length < n) (h255 : n < 256) :
    Calls Tryz.prog 27 #[.pointer (some ⟨bo, 0, none⟩)] w (NoName bo g ((n : Int) :: xs) w) := by
  have HL := fun nq => hide (left_any bo g A c ((n : Int) :: xs) 0 (w.drewN nq) (h.toD nq))
  have HT := fun nq => hide (otext_neg bo g A c ((n : Int) :: xs) (w.drewN nq) (h.toD nq))
  have c0 := h.box.cell 0
  obtain ⟨off, rfl, hg, hc⟩ := h.mem (by simp)
  have c1 : w.cell? ⟨g, off, none⟩ = some (.int .u8 n) := hc 0 (by simp)
  have hcap := h.cap
  clear hc h
  rw [List.length_cons] at c0 HL
  go_enter Tryz.func27, Tryz.ntmps27
  go_wp2_with fail
  go_quiet (first | (go_at_call 62; refine Calls.quiet_of_same ((HL _).out.mono fun _ _ h => ⟨h.1, h.2.symm⟩)))
  have hd : xs.length < n := hn
  have hw : IntKind.i64.wrap (n : Int) = n := IntWalk.i64_in _ (by omega)
  go_wp2_with fail
  refine (HT nq).out.mono ?_
  rintro e w1 ⟨rfl, A1, c1', ho, hk⟩
  have HO := hide ho
  have HK := hide (((Kp.refl (OnlyF bo) w).drewN nq).same hk)
  clear ho hk
  go_wp2_with fail
  go_ret
  exact ⟨rfl, 3, by decide, _, _, HO.out, HK.out⟩
set_option maxHeartbeats 1000000 in
set_option maxRecDepth 20000 in
/-- Name where nothing is left -/
theorem oname_none (bo g : Nat) (A : Option Addr) (c : Nat) (w : World) (h : Opn w bo g A c [] 0) :
    Calls Tryz.prog 27 #[.pointer (some ⟨bo, 0, none⟩)] w (NoName bo g [] w) := by
  have HL := fun nq => hide (left_any bo g A c [] 0 (w.drewN nq) (h.toD nq))
  have HT := fun nq => hide (take_far bo g A c 1 [] (w.drewN nq) (h.toD nq) (.inl rfl) (by decide))
  clear h
  go_enter Tryz.func27, Tryz.ntmps27
  go_wp2_with fail
  go_quiet (first | (go_at_call 62; refine Calls.quiet_of_same ((HL _).out.mono fun _ _ h => ⟨h.1, h.2.symm⟩)))
  go_wp2_with fail
  refine (HT nq).out.mono ?_
  rintro e w1 ⟨rfl, A1, c1', ho, hk⟩
  have HK := hide (((Kp.refl (OnlyF bo) w).drewN nq).same hk)
  have HB := hide (otext_bad bo g A1 c1' 0 [] 3 (by decide) w1 ho)
  have HO := hide ho
  clear ho hk
  go_wp2_with fail
  refine HB.out.mono ?_
  rintro e w2 ⟨rfl, rfl⟩
  go_wp2_with fail
  go_ret
  exact ⟨rfl, 3, by decide, _, _, HO.out, HK.out⟩
set_option maxHeartbeats 1000000 in
set_option maxRecDepth 20000 in
/-- Name of an opener that has failed -/
theorem oname_bad (bo g : Nat) (A : Option Addr) (c : Nat) (xs : List Int) (err : Int) (he : err ≠ 0) (hx : Byt xs) (hl : xs.length ≤ 1000001) (w : World) (h : Opn w bo g A c xs err) :
    Calls Tryz.prog 27 #[.pointer (some ⟨bo, 0, none⟩)] w (NoName bo g xs w) := by
  have HL := fun nq => hide (left_any bo g A c xs err (w.drewN nq) (h.toD nq))
  have HT := fun nq => hide (take1_bad bo g A c xs err he (w.drewN nq) (h.toD nq))
  have HX := fun n nq => hide (otext_bad bo g A c n xs err he (w.drewN nq) (h.toD nq))
  have HE := hide he
  have HO := fun nq => hide (h.toD nq)
  have HK := fun nq => hide ((Kp.refl (OnlyF bo) w).drewN nq)
  cases xs with
  | nil =>
    clear h he
    go_enter Tryz.func27, Tryz.ntmps27
    go_wp2_with fail
    go_quiet (first | (go_at_call 62; refine Calls.quiet_of_same ((HL _).out.mono fun _ _ h => ⟨h.1, h.2.symm⟩)))
    go_wp2_with fail
    refine (HT nq).out.mono ?_
    rintro e w1 ⟨rfl, rfl⟩
    go_wp2_with fail
    refine (HX _ nq).out.mono ?_
    rintro e w2 ⟨rfl, rfl⟩
    go_wp2_with fail
    go_ret
    exact ⟨rfl, err, HE.out, _, _, (HO nq).out, (HK nq).out⟩
  | cons x xs =>
    have c0 := h.box.cell 0
    obtain ⟨off, rfl, hg, hc⟩ := h.mem (by simp)
    have c1 : w.cell? ⟨g, off, none⟩ = some (.int .u8 x) := hc 0 (by simp)
    have hcap := h.cap
    obtain ⟨hx0, hx1⟩ := hx x (by simp)
    clear hc h he hx
    rw [List.length_cons] at c0 HL hl
    have hwl : IntKind.i64.wrap (xs.length : Int) = (xs.length : Int) := IntWalk.i64_in _ (by omega)
    have hw : IntKind.i64.wrap x = x := IntWalk.i64_in _ (by omega)
    go_enter Tryz.func27, Tryz.ntmps27
    go_wp2_with fail
    go_quiet (first | (go_at_call 62; refine Calls.quiet_of_same ((HL _).out.mono fun _ _ h => ⟨h.1, h.2.symm⟩)))
    by_cases hd : (xs.length : Int) < x
    · go_wp2_with fail
      refine (HX _ nq).out.mono ?_
      rintro e w2 ⟨rfl, rfl⟩
      go_wp2_with fail
      go_ret
      exact ⟨rfl, err, HE.out, _, _, (HO nq).out, (HK nq).out⟩
    · go_wp2_with fail
      refine (HT nq).out.mono ?_
      rintro e w1 ⟨rfl, rfl⟩
      go_wp2_with fail
      refine (HX _ nq).out.mono ?_
      rintro e w2 ⟨rfl, rfl⟩
      go_wp2_with fail
      go_ret
      exact ⟨rfl, err, HE.out, _, _, (HO nq).out, (HK nq).out⟩
/-- Name of whatever bytes are left -/
theorem oname_all (bo g : Nat) (A : Option Addr) (c : Nat) (xs : List Int) (err : Int) (hx : Byt xs) (hl : xs.length ≤ 1000000) (w : World) (h : Opn w bo g A c xs err) :
    Calls Tryz.prog 27 #[.pointer (some ⟨bo, 0, none⟩)] w fun e w' => (∃ k r, err = 0 ∧ nameL xs = some (k, r) ∧ e = .returned (.string (strOfNums k)) ∧ OpnTo w bo g r 0 w') ∨ ((err ≠ 0 ∨ nameL xs = none) ∧ NoName bo g xs w e w') := by
  by_cases he : err = 0
  · subst he
    cases xs with
    | nil => exact (oname_none bo g A c w h).mono fun e w' h => .inr ⟨.inr rfl, h⟩
    | cons x xs =>
      obtain ⟨h0, h1⟩ := hx x (by simp)
      obtain ⟨n, rfl⟩ : ∃ n : Nat, x = n := ⟨x.toNat, by omega⟩
      rw [List.length_cons] at hl
      by_cases hn : n ≤ xs.length
      · refine (oname_any bo g A c n xs w h hn (by omega) (fun y hy => hx y (List.mem_cons_of_mem _ hy)) (by omega)).mono fun e w' hh => .inl ⟨xs.take n, xs.drop n, rfl, ?_, hh.1, hh.2⟩
        show (if (n : Int).toNat ≤ xs.length then some (xs.take (n : Int).toNat, xs.drop (n : Int).toNat) else none) = _
        rw [if_pos (by omega)]
        rfl
      · refine (oname_far bo g A c n xs w h (by omega) (by omega)).mono fun e w' hh => .inr ⟨.inr ?_, hh⟩
        show (if (n : Int).toNat ≤ xs.length then some (xs.take (n : Int).toNat, xs.drop (n : Int).toNat) else none) = _
        rw [if_neg (by omega)]
  · exact (oname_bad bo g A c xs err he hx (by omega) w h).mono fun e w' hh => .inr ⟨.inl he, hh⟩
end Go.Proofs.YtokibbgahefkbaaGreatDoor.Fe
namespace Go.Proofs.YtokibbgahefkbaaGreatDoor.Fe
open Go.RowKit Go.Shelf

/-- Name, whatever bytes are left and whether it failed: a text, what is left, the error -/
def NameR (xs : List Int) (err : Int) (u : ByteArray) (r : List Int) (err' : Int) : Prop :=
  (err = 0 ∧ err' = 0 ∧ ∃ k, nameL xs = some (k, r) ∧ u = strOfNums k) ∨ ((err ≠ 0 ∨ nameL xs = none) ∧ u = ByteArray.empty ∧ err' ≠ 0)
theorem nameL_sub {xs k r : List Int} (h : nameL xs = some (k, r)) : (∀ x ∈ r, x ∈ xs) ∧ r.length ≤ xs.length := by
  obtain ⟨n, rfl, _⟩ := nameL_some h
  exact ⟨fun x hx => List.mem_cons_of_mem _ (List.mem_append_right _ hx), by simp only [List.length_cons, List.length_append]; omega⟩
theorem oname_gen (bo g : Nat) (A : Option Addr) (c : Nat) (xs : List Int) (err : Int) (hx : Byt xs) (hl : xs.length ≤ 1000000) (w : World) (h : Opn w bo g A c xs err) :
    Calls Tryz.prog 27 #[.pointer (some ⟨bo, 0, none⟩)] w fun e w' => ∃ u r err', e = .returned (.string u) ∧ OpnTo w bo g r err' w' ∧ NameR xs err u r err' ∧ Byt r ∧ r.length ≤ xs.length :=
  (oname_all bo g A c xs err hx hl w h).mono fun e w' hh => by
    rcases hh with ⟨k, r, h1, h2, h3, h4⟩ | ⟨h1, h2, err', h3, h4⟩
    · exact ⟨_, r, 0, h3, h4, .inl ⟨h1, rfl, k, h2, rfl⟩, fun x hx' => hx x ((nameL_sub h2).1 x hx'), (nameL_sub h2).2⟩
    · exact ⟨_, xs, err', h2, h4, .inr ⟨h1, rfl, h3⟩, hx, Nat.le_refl _⟩
theorem take2_gen (bo g : Nat) (A : Option Addr) (c : Nat) (xs : List Int) (hx : Byt xs) (w : World) (h : Opn w bo g A c xs 0) :
    Calls Tryz.prog 25 #[.pointer (some ⟨bo, 0, none⟩), .int .i64 2] w fun e w' => ∃ (n : Nat) (r : List Int) (err : Int), e = .returned (.int .u64 (n : Int)) ∧ OpnTo w bo g r err w' ∧ n < 65536 ∧ Byt r ∧ r.length ≤ xs.length ∧
      ((2 ≤ xs.length ∧ n = (Pl.un (xs.take 2)).toNat ∧ r = xs.drop 2 ∧ err = 0) ∨ (¬ 2 ≤ xs.length ∧ n = 0 ∧ err ≠ 0)) := by
  by_cases h2 : 2 ≤ xs.length
  · refine (take_any bo g A c 2 xs w h (.inr (.inl rfl)) h2 hx).mono fun e w' hh => ?_
    have hbd := Pl.un_bound (xs.take 2) (fun x hx' => hx x (List.mem_of_mem_take hx'))
    have ht : (xs.take 2).length = 2 := by rw [List.length_take]; omega
    rw [ht] at hbd
    exact ⟨(Pl.un (xs.take 2)).toNat, xs.drop 2, 0, by rw [hh.1]; congr 2; omega, hh.2, by omega, fun x hx' => hx x (List.mem_of_mem_drop hx'), by rw [List.length_drop]; omega, .inl ⟨h2, rfl, rfl, rfl⟩⟩
  · exact (take_far bo g A c 2 xs w h (.inr rfl) (by omega)).mono fun e w' hh => ⟨0, xs, 3, hh.1, hh.2, by decide, hx, Nat.le_refl _, .inr ⟨h2, rfl, by decide⟩⟩
/-- texts lie in none of the blocks that hold no text -/
theorem Mem.far {w w' : World} {B b : Nat} {t : TypeId} {cs : List Value} {A : Option Addr} {es : List Ent} (h : Mem w B A (pv es)) (hw : Whole w b t cs) (hr : ∀ v ∈ cs, ∀ s, v ≠ .string s) (hB : B ≤ w.heap.size) (hk : Kp (OnlyF b) w w') : Mem w' w'.heap.size A (pv es) := fun h0 => by
  obtain ⟨g, off, e, hb, hc⟩ := h h0
  have hne : g ≠ b := fun e => by
    subst e
    obtain ⟨s, hs⟩ := pv_str es 0 h0
    have h3 := hc 0 h0
    rw [hs, hw.cell] at h3
    exact hr _ (List.mem_of_getElem? h3) s rfl
  exact ⟨g, off, e, Nat.lt_of_lt_of_le (Nat.lt_of_lt_of_le hb hB) hk.size, fun i hi => (hk.cell (p := ⟨g, off + i, none⟩) (by show g < _; omega) (fun e => hne e)).trans (hc i hi)⟩
/-- while bytes are taken -/
structure TkSt (w wr : World) (B bo g : Nat) (A : Option Addr) (c : Nat) (b : List Ent) (xs : List Int) (err : Int) : Prop where
  bel : Below w.heap.size w wr
  res : Whole wr w.heap.size 25 [.slice none 0 0]
  box : Whole wr B 25 [.slice A b.length c]
  mem : Mem wr wr.heap.size A (pv b)
  opn : ∃ A' c', Opn wr bo g A' c' xs err
  bk : Bk b
  byt : Byt xs
  len : xs.length ≤ 100000
  d1 : w.heap.size < B
  d2 : w.heap.size < bo
  d3 : B ≠ bo
  d4 : w.heap.size < g
  d5 : B ≠ g
theorem TkSt.name {w wr w' : World} {B bo g : Nat} {A : Option Addr} {c : Nat} {b : List Ent} {xs r : List Int} {err err' : Int} (h : TkSt w wr B bo g A c b xs err) (ho : OpnTo wr bo g r err' w') (hx : Byt r) (hl : r.length ≤ xs.length) : TkSt w w' B bo g A c b r err' := by
  obtain ⟨A', c', h1, h2⟩ := ho
  obtain ⟨A0, c0, h0⟩ := h.opn
  have := h.d2
  have := h.len
  have := h.bel.size
  exact ⟨h.bel.trans (h2.below h.bel.size (fun i hi => by cases hi; omega)), h.res.kp h2 (fun e => by have e : w.heap.size = bo := e; omega), h.box.kp h2 h.d3, h.mem.far h0.box (fun v hv s => by simp at hv; rcases hv with rfl | rfl <;> simp) (Nat.le_refl _) h2, ⟨A', c', h1⟩, h.bk, hx, by omega, h.d1, h.d2, h.d3, h.d4, h.d5⟩
theorem TkSt.below {w wr w' : World} {B bo g : Nat} {A : Option Addr} {c : Nat} {b : List Ent} {xs : List Int} {err : Int} (h : TkSt w wr B bo g A c b xs err) (hb : Below wr.heap.size wr w') : TkSt w w' B bo g A c b xs err := by
  obtain ⟨A0, c0, h0⟩ := h.opn
  exact ⟨h.bel.trans (hb.mono h.bel.size), h.res.below hb h.res.lt, h.box.below hb h.box.lt, (h.mem.below hb).mono hb.size, ⟨A0, c0, h0.kp (F := NoF) (Kp.of_below hb) (fun h => h) (fun h => h)⟩, h.bk, h.byt, h.len, h.d1, h.d2, h.d3, h.d4, h.d5⟩
theorem TkSt.put {w wr : World} {B bo g : Nat} {A A' : Option Addr} {c c' : Nat} {b b' : List Ent} {xs : List Int} {err : Int} (h : TkSt w wr B bo g A c b xs err) (hm : Mem wr wr.heap.size A' (pv b')) (hb : Bk b') : TkSt w (wr.setCell ⟨B, 0, none⟩ (.slice A' b'.length c')) B bo g A' c' b' xs err := by
  obtain ⟨A0, c0, h0⟩ := h.opn
  have hk : Kp (OnlyF B) wr (wr.setCell ⟨B, 0, none⟩ (.slice A' b'.length c')) := Kp.set_only _ _ _ _
  have := h.d1
  exact ⟨h.bel.setCell (p := ⟨B, 0, none⟩) (by show w.heap.size ≤ B; omega) _, h.res.kp hk (fun e => by have e : w.heap.size = B := e; omega), h.box.set_ 0 _, (hm.give h.box (fun s e => by cases e)).mono (by simp), ⟨A0, c0, h0.kp hk (fun e => h.d3 e.symm) (fun e => h.d5 e.symm)⟩, hb, h.byt, h.len, h.d1, h.d2, h.d3, h.d4, h.d5⟩
theorem withL_bk {es : List Ent} {k v : ByteArray} (h : Bk es) : Bk (withL es k v) := by
  unfold withL
  split
  · rename_i hp
    exact h.put hp
  · exact h
theorem loopP_name {n : Nat} {b : List Ent} {xs : List Int} (h : nameL xs = none) : loopP (n + 1) b xs = none := by
  unfold loopP
  rw [h]
theorem loopP_name2 {n : Nat} {b : List Ent} {xs k r : List Int} (h : nameL xs = some (k, r)) (h2 : nameL r = none) : loopP (n + 1) b xs = none := by
  unfold loopP
  rw [h]
  simp only [h2]
theorem loopP_step {n : Nat} {b : List Ent} {xs k r v r2 : List Int} (h : nameL xs = some (k, r)) (h2 : nameL r = some (v, r2)) : loopP (n + 1) b xs = if putErr b (strOfNums k) (strOfNums v) = 0 then loopP n (putE b (strOfNums k) (strOfNums v)) r2 else none := by
  conv => lhs; unfold loopP
  rw [h]
  simp only [h2]
/-- what the bytes say, at the loop's head -/
def Sem (R : Option (List Ent × List Int)) (n : Nat) (b : List Ent) (xs : List Int) (err e : Int) : Prop := (e = 0 ∧ err = 0 ∧ R = loopP n b xs) ∨ ((e ≠ 0 ∨ err ≠ 0) ∧ R = none)
theorem Sem.step {R : Option (List Ent × List Int)} {n : Nat} {b : List Ent} {xs r1 r2 : List Int} {key val : ByteArray} {e1 e2 : Int} (h : Sem R (n + 1) b xs 0 0) (h1 : NameR xs 0 key r1 e1) (h2 : NameR r1 e1 val r2 e2) : Sem R n (withL b key val) r2 e2 (putErr b key val) := by
  have hR : R = loopP (n + 1) b xs := by
    rcases h with ⟨_, _, h⟩ | ⟨h, _⟩
    · exact h
    · exact absurd h (by simp)
  rcases h1 with ⟨_, rfl, k, hk, rfl⟩ | ⟨h1, rfl, he1⟩
  · rcases h2 with ⟨_, rfl, v, hv, rfl⟩ | ⟨h2, rfl, he2⟩
    · rw [loopP_step hk hv] at hR
      by_cases hp : putErr b (strOfNums k) (strOfNums v) = 0
      · rw [if_pos hp] at hR
        exact .inl ⟨hp, rfl, by rw [withL_ok hp]; exact hR⟩
      · rw [if_neg hp] at hR
        exact .inr ⟨.inl hp, hR⟩
    · have hn : nameL r1 = none := h2.resolve_left (fun h => h rfl)
      rw [loopP_name2 hk hn] at hR
      exact .inr ⟨.inr he2, hR⟩
  · have hn : nameL xs = none := h1.resolve_left (fun h => h rfl)
    rw [loopP_name hn] at hR
    refine .inr ⟨?_, hR⟩
    rcases h2 with ⟨h2, _⟩ | ⟨_, rfl, he2⟩
    · exact absurd h2 he1
    · exact .inr he2
def headR (xs : List Int) : Option (List Ent × List Int) := if 2 ≤ xs.length then loopP (Pl.un (xs.take 2)).toNat [] (xs.drop 2) else none
theorem takeP_head (xs : List Int) : takeP xs = match headR xs with
    | some (b, _) => if encB b = xs then some b else none
    | none => none := by
  unfold takeP headR
  split <;> rfl
def TakeQ (s : ByteArray) (w : World) (e : Ending) (w' : World) : Prop :=
  ∃ A c b err, e = .returned (.tuple #[bkV A b.length c, .int .i64 err]) ∧ Mem w' w'.heap.size A (pv b) ∧ Below w.heap.size w w' ∧ ((takeP (nS s) = some b ∧ err = 0) ∨ (takeP (nS s) = none ∧ b = [] ∧ err = 3))
theorem encN_byt {s : ByteArray} (h : s.size < 256) : Byt (encN s) := fun x hx => by
  rcases List.mem_cons.1 hx with rfl | hx
  · omega
  · exact nS_byt s x hx
theorem encB_byt {b : List Ent} (h : Bk b) : Byt (encB b) := by
  refine Byt.app (Pl.be_byt 2 _) fun x hx => ?_
  obtain ⟨e, he, hx⟩ := List.mem_flatMap.1 hx
  have hf := h.fit e he
  rcases List.mem_append.1 hx with hx | hx
  · exact encN_byt (by have := hf.2.1; omega) x hx
  · exact encN_byt (by have := hf.2.2; omega) x hx
theorem enc_iff {b : List Ent} (hb : Bk b) (s : ByteArray) : strOfNums (encB b) = s ↔ encB b = nS s := by
  constructor
  · intro h
    rw [← h, nS_of (encB_byt hb)]
  · intro h
    rw [h, ofNums_nS]
theorem Sem.bad {R : Option (List Ent × List Int)} {n : Nat} {b : List Ent} {xs : List Int} {err e : Int} (h : Sem R n b xs err e) (hb : e ≠ 0 ∨ err ≠ 0) : R = none := by
  rcases h with ⟨h1, h2, _⟩ | ⟨_, h⟩
  · exact absurd hb (by simp [h1, h2])
  · exact h
theorem Sem.end_ {R : Option (List Ent × List Int)} {b : List Ent} {xs : List Int} (h : Sem R 0 b xs 0 0) : R = some (b, xs) := by
  rcases h with ⟨_, _, h⟩ | ⟨h, _⟩
  · exact h
  · exact absurd h (by simp)
theorem Sem.end_' {R : Option (List Ent × List Int)} {n : Nat} {b : List Ent} {xs : List Int} {err : Int} (h : Sem R n b xs err 0) (hn : n = 0) (he : err = 0 := by rfl) : R = some (b, xs) := by
  subst hn he
  exact h.end_
theorem beq_str_ne' {a b : ByteArray} (h : a ≠ b) : (a.toList == b.toList) = false := by
  rw [toList_eq, toList_eq]
  exact beq_false_of_ne fun e => h (bytes_ext e)
theorem take_none {s : ByteArray} (h : headR (bs s) = none) : takeP (nS s) = none := by
  rw [takeP_head]
  show (match headR (bs s) with | some (b, _) => if encB b = nS s then some b else none | none => none) = none
  rw [h]
theorem take_left {s : ByteArray} {b : List Ent} {xs : List Int} (h : headR (bs s) = some (b, xs)) (hx : xs ≠ []) : takeP (nS s) = none := by
  rw [takeP_head]
  show (match headR (bs s) with | some (b, _) => if encB b = nS s then some b else none | none => none) = none
  rw [h]
  simp only
  rw [if_neg]
  intro he
  unfold headR at h
  split at h
  · rename_i h2
    refine hx (loopP_left h ?_)
    have h3 : (encB b).length = (bs s).length := by rw [he]; rfl
    unfold encB at h3
    rw [List.length_append, Pl.be_len] at h3
    rw [List.length_drop]
    omega
  · cases h
theorem take_all {s : ByteArray} {b : List Ent} {xs : List Int} (h : headR (bs s) = some (b, xs)) : takeP (nS s) = if encB b = nS s then some b else none := by
  rw [takeP_head]
  show (match headR (bs s) with | some (b, _) => if encB b = nS s then some b else none | none => none) = _
  rw [h]
theorem end_zero {xs : List Int} {err : Int} (h : endErr xs err = 0) : err = 0 ∧ xs = [] := by
  unfold endErr at h
  split at h
  · rename_i h1
    exact absurd h h1
  · rename_i h1
    split at h
    · rename_i h2
      exact ⟨by simpa using h1, List.eq_nil_of_length_eq_zero h2⟩
    · cases h
theorem end_nz {xs : List Int} {err : Int} (h : endErr xs err ≠ 0) : err ≠ 0 ∨ xs ≠ [] := by
  by_cases h1 : err = 0
  · refine .inr fun h2 => h ?_
    subst h1 h2
    rfl
  · exact .inl h1
theorem takeQ_bad {s : ByteArray} {w w' : World} (hb : Below w.heap.size w w') (h : takeP (nS s) = none) : TakeQ s w (.returned (.tuple #[bkV none 0 0, .int .i64 3])) w' :=
  ⟨none, 0, [], 3, rfl, Mem.nil, hb, .inr ⟨h, rfl, rfl⟩⟩
theorem TkSt.give {w wr : World} {B bo g : Nat} {A : Option Addr} {c : Nat} {b : List Ent} {xs : List Int} {err : Int} (h : TkSt w wr B bo g A c b xs err) (A' : Option Addr) (n c' : Nat) : Whole (wr.setCell ⟨w.heap.size, 0, none⟩ (.slice A' n c')) w.heap.size 25 [.slice A' n c'] ∧ Below w.heap.size w (wr.setCell ⟨w.heap.size, 0, none⟩ (.slice A' n c')) :=
  ⟨h.res.set_ 0 _, h.bel.setCell (p := ⟨w.heap.size, 0, none⟩) (Nat.le_refl _) _⟩
set_option maxHeartbeats 4000000 in
set_option maxRecDepth 20000 in
theorem keepTake_any (s : ByteArray) (hs : s.size ≤ 90000) (w : World) :
    Calls Tryz.prog 7 #[.string s] w (TakeQ s w) := by
  have hb1 : Below w.heap.size w (w.alloc (.cells #[.slice none 0 0] 25)) := (Below.refl _ _).alloc (Nat.le_refl _) _
  have hw1 := Whole.new w [.slice none 0 0] 25
  change Whole (w.alloc (.cells #[.slice none 0 0] 25)) _ _ _ at hw1
  have hz1 : (w.alloc (.cells #[.slice none 0 0] 25)).heap.size = w.heap.size + 1 := by simp
  obtain ⟨A1, c1, w2, hcv, hm2, hb2⟩ := conv_bytes (w.alloc (.cells #[.slice none 0 0] 25)) s
  rw [hz1] at hb2
  have hlen : (bs s).length = s.size := bs_len s
  have HO := hide (of_any A1 (bs s) c1 w2 hm2 (by omega))
  rw [hlen] at HO
  have HB2 := hide (hb1.trans (hb2.mono (by omega)))
  have HW2 := hide (hw1.below hb2 (by omega))
  have HZ2 := hide (show w.heap.size + 1 ≤ w2.heap.size by have := hb2.size; omega)
  clear hb1 hw1 hz1 hm2 hb2
  go_enter Tryz.func7, Tryz.ntmps7
  go_wp2_with fail
  refine HO.out.mono ?_
  rintro e w3 ⟨bo, g, A3, c3, rfl, ho3, hb3, hbo, hg⟩
  have HO3 := hide ho3
  have HB3 := hide hb3
  clear ho3 hb3 HO
  have hzz := HZ2.out
  obtain ⟨g', hst0⟩ : ∃ g', TkSt w (w3.alloc (.cells #[.slice none 0 0] 25)) w3.heap.size bo g' none 0 [] (bs s) 0 := by
    have hb4 : Below w3.heap.size w3 (w3.alloc (.cells #[.slice none 0 0] 25)) := (Below.refl _ _).alloc (Nat.le_refl _) _
    have hbl := HO3.out.box.lt
    have hb3s := HB3.out.size
    have hr4 := (HW2.out.below HB3.out (by omega)).below hb4 (by omega)
    have hB4 := HB2.out.trans ((HB3.out.trans (hb4.mono hb3s)).mono HB2.out.size)
    have hx4 : Whole (w3.alloc (.cells #[.slice none 0 0] 25)) w3.heap.size 25 [.slice none 0 0] := Whole.new w3 _ _
    have ho4 : Opn (w3.alloc (.cells #[.slice none 0 0] 25)) bo g A3 c3 (bs s) 0 := HO3.out.kp (F := NoF) (Kp.of_below hb4) (fun h => h) (fun h => h)
    rcases Nat.eq_zero_or_pos (bs s).length with h0 | h0
    · refine ⟨w3.heap.size + 1, hB4, hr4, hx4, Mem.nil, ⟨A3, c3, ho4.box, fun h => by omega, ho4.cap, by omega⟩, Bk.nil, bs_byt s, by omega, by omega, by omega, by omega, by omega, by omega⟩
    · obtain ⟨off, _, h2, _⟩ := HO3.out.mem h0
      exact ⟨g, hB4, hr4, hx4, Mem.nil, ⟨A3, c3, ho4⟩, Bk.nil, bs_byt s, by omega, by omega, by omega, by omega, by omega, by omega⟩
  have HSt0 := hide hst0
  obtain ⟨A4, c4, ho4⟩ := hst0.opn
  have HT := hide (take2_gen bo g' A4 c4 (bs s) (bs_byt s) _ ho4)
  clear hst0 ho4 HO3 HB3 HW2 HB2 hzz
  go_wp2_with fail
  refine HT.out.mono ?_
  rintro e w5 ⟨n, r, err, rfl, hto, hn, hbr, hlr, hsem⟩
  have HSt5 := hide (HSt0.out.name hto hbr hlr)
  have HS5 := hide (show Sem (headR (bs s)) n [] r err 0 from by
    unfold headR
    rcases hsem with ⟨h1, rfl, rfl, rfl⟩ | ⟨h1, rfl, h2⟩
    · exact .inl ⟨rfl, rfl, by rw [if_pos h1]⟩
    · exact .inr ⟨.inr h2, by rw [if_neg h1]⟩)
  clear hto hbr hlr hsem HSt0 HT
  generalize w3.heap.size = B at *
  go_upto_region 4 with fail
  go_loopw [6, 7, 8] (fun x y _ wr => ∃ (n : Nat) (b : List Ent) (A : Option Addr) (c : Nat) (xs : List Int) (err e : Int), n < 65536 ∧ x = .int .i64 e ∧ y = .int .u64 (n : Int) ∧ TkSt w wr B bo g' A c b xs err ∧ Sem (headR (bs s)) n b xs err e) (fun _ y _ _ => (Go.RowKit.intOf y).toNat)
  case atStart => exact ⟨n, [], none, 0, r, err, 0, hn, rfl, rfl, HSt5.out, HS5.out⟩
  case round =>
    clear HSt5 HS5
    obtain ⟨n, b, A, c, xs, err, e, hn, rfl, rfl, hst, hse⟩ := hrel
    have HSt := hide hst
    have HSe := hide hse
    obtain ⟨A6, c6, ho6⟩ := hst.opn
    have HEr := hide (err_any bo g' A6 c6 xs err wr ho6)
    have HNa := hide (oname_gen bo g' A6 c6 xs err hst.byt (Nat.le_trans hst.len (by decide)) wr ho6)
    have HOp := hide ho6
    clear hst hse ho6
    by_cases hgo : 0 < n ∧ e = 0 ∧ err = 0
    · obtain ⟨h0, rfl, rfl⟩ := hgo
      have hnI : (0 : Int) < (n : Int) := by omega
      obtain ⟨m, rfl⟩ : ∃ m, n = m + 1 := ⟨n - 1, by omega⟩
      go_wp2_with fail
      refine HEr.out.mono ?_
      rintro e w7 ⟨rfl, rfl⟩
      go_wp2_with fail
      refine HNa.out.mono ?_
      rintro e w7 ⟨key, r1, e1, rfl, hto, hrel1, hb1, hl1⟩
      have HT0 := hide (HSt.out.name hto hb1 hl1)
      have HRel1 := hide hrel1
      clear hto hrel1 hb1 hl1 HSt HNa HEr HOp
      go_wp2_with fail
      refine wp_region_held_drew (S := (fun w' => Below w.heap.size w w')) (by kernel_rfl) (HT0.out.bel.drew) (fun hHeld => ?_)
      have HT0 := hide (show TkSt w w7.drew B bo g' A c b r1 e1 from HT0.out.below (Below.refl _ _).drew)
      generalize w7.drew = wd at *
      refine wpAnyH_take (i := 1) (v := ?vaq1) rfl (by kernel_rfl) (by kernel_rfl) (by kernel_rfl) (fun _ _ _ h => h) (Or.inl ⟨by rfl, ?haq1⟩) (by assumption) ?raq1
      case haq1 => (intro wq hSw; go_simp; (try with_reducible rfl))
      try simp only [Act.put, List.getElem_toArray, List.getElem_cons_zero, List.getElem_cons_succ, List.setIfInBounds_toArray, List.set_cons_zero, List.set_cons_succ]
      refine wpAnyH_take (i := 2) (v := ?vaq2) rfl (by kernel_rfl) (by kernel_rfl) (by kernel_rfl) (fun _ _ _ h => h) (Or.inl ⟨by rfl, ?haq2⟩) (by assumption) ?raq2
      case haq2 => (intro wq hSw; go_simp; (try with_reducible rfl))
      try simp only [Act.put, List.getElem_toArray, List.getElem_cons_zero, List.getElem_cons_succ, List.setIfInBounds_toArray, List.set_cons_zero, List.set_cons_succ]
      refine wpAnyH_ready (rs := [0, 3]) (by kernel_rfl) (by simp) ?_
      refine AllReadyH.cons (o := _) rfl (fun K hK => ?_) ?_
      · skip
        have y0 := HT0.out.box.cell 0
        simp only [List.getElem?_cons_zero] at y0
        go_simp
        refine hK.out _ _ (hHeld) (fun hHeld => ?_)
        clear hK K y0
        try simp only [Act.put, List.getElem_toArray, List.getElem_cons_zero, List.getElem_cons_succ, List.setIfInBounds_toArray, List.set_cons_zero, List.set_cons_succ]
        refine wpAnyH_ready (rs := [3]) (by kernel_rfl) (by simp) ?_
        refine AllReadyH.cons (o := _) rfl (fun K hK => ?_) ?_
        · skip
          obtain ⟨A7, c7, ho7⟩ := HT0.out.opn
          go_simp
          refine (oname_gen bo g' A7 c7 r1 e1 HT0.out.byt (Nat.le_trans HT0.out.len (by decide)) _ ho7).mono ?_
          rintro e wn1 ⟨val, r2, e2, rfl, hto2, hrel2, hb2, hl2⟩
          have HT1 := hide (HT0.out.name hto2 hb2 hl2)
          have HRel2 := hide hrel2
          clear hto2 hrel2 hb2 hl2 ho7
          refine hK.out _ _ (HT1.out.bel) (fun hHeld => ?_)
          clear hK K 
          try simp only [Act.put, List.getElem_toArray, List.getElem_cons_zero, List.getElem_cons_succ, List.setIfInBounds_toArray, List.set_cons_zero, List.set_cons_succ]
          refine wpAnyH_ready (rs := [4]) (by kernel_rfl) (by simp) ?_
          refine AllReadyH.cons (o := _) rfl (fun K hK => ?_) ?_
          · skip
            go_simp
            refine (with_any A c b key val _ HT1.out.mem HT1.out.bk).mono ?_
            rintro e wn2 ⟨A9, c9, rfl, hm9, hb9⟩
            unfold bkV
            have HT2 := hide (HT1.out.below hb9)
            have HM9 := hide hm9
            clear hm9 hb9
            refine hK.out _ _ (HT2.out.bel) (fun hHeld => ?_)
            clear hK K 
            try simp only [Act.put, List.getElem_toArray, List.getElem_cons_zero, List.getElem_cons_succ, List.setIfInBounds_toArray, List.set_cons_zero, List.set_cons_succ]
            refine wpAnyH_take (i := 5) (v := ?vaq3) rfl (by kernel_rfl) (by kernel_rfl) (by kernel_rfl) (fun _ _ _ h => h) (Or.inl ⟨by rfl, ?haq3⟩) (by assumption) ?raq3
            case haq3 => (intro wq hSw; go_simp; (try with_reducible rfl))
            try simp only [Act.put, List.getElem_toArray, List.getElem_cons_zero, List.getElem_cons_succ, List.setIfInBounds_toArray, List.set_cons_zero, List.set_cons_succ]
            refine wpAnyH_take (i := 6) (v := ?vaq4) rfl (by kernel_rfl) (by kernel_rfl) (by kernel_rfl) (fun _ _ _ h => h) (Or.inl ⟨by rfl, ?haq4⟩) (by assumption) ?raq4
            case haq4 => (intro wq hSw; go_simp; (try with_reducible rfl))
            try simp only [Act.put, List.getElem_toArray, List.getElem_cons_zero, List.getElem_cons_succ, List.setIfInBounds_toArray, List.set_cons_zero, List.set_cons_succ]
            refine wpAnyH_take (i := 7) (v := ?vaq5) rfl (by kernel_rfl) (by kernel_rfl) (by kernel_rfl) (fun _ _ _ h => h) (Or.inl ⟨by rfl, ?haq5⟩) (by assumption) ?raq5
            case haq5 => (intro wq hSw; go_simp; (try with_reducible rfl))
            try simp only [Act.put, List.getElem_toArray, List.getElem_cons_zero, List.getElem_cons_succ, List.setIfInBounds_toArray, List.set_cons_zero, List.set_cons_succ]
            refine wpAnyH_ready (rs := [8]) (by kernel_rfl) (by simp) ?_
            refine AllReadyH.cons (o := _) rfl (fun K hK => ?_) ?_
            · skip
              have y0 := HT2.out.box.cell 0
              have yf := HT2.out.box.frozen 0
              simp only [List.getElem?_cons_zero] at y0
              go_simp
              have HTz := hide (HT2.out.put (c' := c9) HM9.out (withL_bk HT2.out.bk))
              generalize wn2.setCell ⟨B, 0, none⟩ (.slice A9 (withL b key val).length c9) = wz at *
              refine hK.out _ _ (HTz.out.bel) (fun hHeld => ?_)
              clear hK K y0 yf
              try simp only [Act.put, List.getElem_toArray, List.getElem_cons_zero, List.getElem_cons_succ, List.setIfInBounds_toArray, List.set_cons_zero, List.set_cons_succ]
              refine wpAnyH_take (i := 9) (v := ?vaq6) rfl (by kernel_rfl) (by kernel_rfl) (by kernel_rfl) (fun _ _ _ h => h) (Or.inl ⟨by rfl, ?haq6⟩) (by assumption) ?raq6
              case haq6 => (intro wq hSw; go_simp; (try with_reducible rfl))
              try simp only [Act.put, List.getElem_toArray, List.getElem_cons_zero, List.getElem_cons_succ, List.setIfInBounds_toArray, List.set_cons_zero, List.set_cons_succ]
              refine wpAnyH_done (by kernel_rfl) ?_ _
              have HSz := hide (HSe.out.step HRel1.out HRel2.out)
              have hw1 : IntKind.u64.wrap ((m : Int) + 1 - 1) = (m : Int) := by rw [IntKind.wrap_u64]; omega
              clear HRel1 HRel2 HM9 hHeld
              go_wp2_with fail
              go_roundw
              case rel => exact ⟨m, _, A9, c9, r2, e2, _, by omega, rfl, rfl, HTz.out, HSz.out⟩
              case measure => first | omega | ((try simp [Go.RowKit.intOf]) <;> omega)
            exact AllReadyH.nil
          exact AllReadyH.nil
        exact AllReadyH.nil
      refine AllReadyH.cons (o := _) rfl (fun K hK => ?_) ?_
      · skip
        obtain ⟨A7, c7, ho7⟩ := HT0.out.opn
        go_simp
        refine (oname_gen bo g' A7 c7 r1 e1 HT0.out.byt (Nat.le_trans HT0.out.len (by decide)) _ ho7).mono ?_
        rintro e wn1 ⟨val, r2, e2, rfl, hto2, hrel2, hb2, hl2⟩
        have HT1 := hide (HT0.out.name hto2 hb2 hl2)
        have HRel2 := hide hrel2
        clear hto2 hrel2 hb2 hl2 ho7
        refine hK.out _ _ (HT1.out.bel) (fun hHeld => ?_)
        clear hK K 
        try simp only [Act.put, List.getElem_toArray, List.getElem_cons_zero, List.getElem_cons_succ, List.setIfInBounds_toArray, List.set_cons_zero, List.set_cons_succ]
        refine wpAnyH_ready (rs := [0]) (by kernel_rfl) (by simp) ?_
        refine AllReadyH.cons (o := _) rfl (fun K hK => ?_) ?_
        · skip
          have y0 := HT1.out.box.cell 0
          simp only [List.getElem?_cons_zero] at y0
          go_simp
          refine hK.out _ _ (hHeld) (fun hHeld => ?_)
          clear hK K y0
          try simp only [Act.put, List.getElem_toArray, List.getElem_cons_zero, List.getElem_cons_succ, List.setIfInBounds_toArray, List.set_cons_zero, List.set_cons_succ]
          refine wpAnyH_ready (rs := [4]) (by kernel_rfl) (by simp) ?_
          refine AllReadyH.cons (o := _) rfl (fun K hK => ?_) ?_
          · skip
            go_simp
            refine (with_any A c b key val _ HT1.out.mem HT1.out.bk).mono ?_
            rintro e wn2 ⟨A9, c9, rfl, hm9, hb9⟩
            unfold bkV
            have HT2 := hide (HT1.out.below hb9)
            have HM9 := hide hm9
            clear hm9 hb9
            refine hK.out _ _ (HT2.out.bel) (fun hHeld => ?_)
            clear hK K 
            try simp only [Act.put, List.getElem_toArray, List.getElem_cons_zero, List.getElem_cons_succ, List.setIfInBounds_toArray, List.set_cons_zero, List.set_cons_succ]
            refine wpAnyH_take (i := 5) (v := ?vaq7) rfl (by kernel_rfl) (by kernel_rfl) (by kernel_rfl) (fun _ _ _ h => h) (Or.inl ⟨by rfl, ?haq7⟩) (by assumption) ?raq7
            case haq7 => (intro wq hSw; go_simp; (try with_reducible rfl))
            try simp only [Act.put, List.getElem_toArray, List.getElem_cons_zero, List.getElem_cons_succ, List.setIfInBounds_toArray, List.set_cons_zero, List.set_cons_succ]
            refine wpAnyH_take (i := 6) (v := ?vaq8) rfl (by kernel_rfl) (by kernel_rfl) (by kernel_rfl) (fun _ _ _ h => h) (Or.inl ⟨by rfl, ?haq8⟩) (by assumption) ?raq8
            case haq8 => (intro wq hSw; go_simp; (try with_reducible rfl))
            try simp only [Act.put, List.getElem_toArray, List.getElem_cons_zero, List.getElem_cons_succ, List.setIfInBounds_toArray, List.set_cons_zero, List.set_cons_succ]
            refine wpAnyH_take (i := 7) (v := ?vaq9) rfl (by kernel_rfl) (by kernel_rfl) (by kernel_rfl) (fun _ _ _ h => h) (Or.inl ⟨by rfl, ?haq9⟩) (by assumption) ?raq9
            case haq9 => (intro wq hSw; go_simp; (try with_reducible rfl))
            try simp only [Act.put, List.getElem_toArray, List.getElem_cons_zero, List.getElem_cons_succ, List.setIfInBounds_toArray, List.set_cons_zero, List.set_cons_succ]
            refine wpAnyH_ready (rs := [8]) (by kernel_rfl) (by simp) ?_
            refine AllReadyH.cons (o := _) rfl (fun K hK => ?_) ?_
            · skip
              have y0 := HT2.out.box.cell 0
              have yf := HT2.out.box.frozen 0
              simp only [List.getElem?_cons_zero] at y0
              go_simp
              have HTz := hide (HT2.out.put (c' := c9) HM9.out (withL_bk HT2.out.bk))
              generalize wn2.setCell ⟨B, 0, none⟩ (.slice A9 (withL b key val).length c9) = wz at *
              refine hK.out _ _ (HTz.out.bel) (fun hHeld => ?_)
              clear hK K y0 yf
              try simp only [Act.put, List.getElem_toArray, List.getElem_cons_zero, List.getElem_cons_succ, List.setIfInBounds_toArray, List.set_cons_zero, List.set_cons_succ]
              refine wpAnyH_take (i := 9) (v := ?vaq10) rfl (by kernel_rfl) (by kernel_rfl) (by kernel_rfl) (fun _ _ _ h => h) (Or.inl ⟨by rfl, ?haq10⟩) (by assumption) ?raq10
              case haq10 => (intro wq hSw; go_simp; (try with_reducible rfl))
              try simp only [Act.put, List.getElem_toArray, List.getElem_cons_zero, List.getElem_cons_succ, List.setIfInBounds_toArray, List.set_cons_zero, List.set_cons_succ]
              refine wpAnyH_done (by kernel_rfl) ?_ _
              have HSz := hide (HSe.out.step HRel1.out HRel2.out)
              have hw1 : IntKind.u64.wrap ((m : Int) + 1 - 1) = (m : Int) := by rw [IntKind.wrap_u64]; omega
              clear HRel1 HRel2 HM9 hHeld
              go_wp2_with fail
              go_roundw
              case rel => exact ⟨m, _, A9, c9, r2, e2, _, by omega, rfl, rfl, HTz.out, HSz.out⟩
              case measure => first | omega | ((try simp [Go.RowKit.intOf]) <;> omega)
            exact AllReadyH.nil
          exact AllReadyH.nil
        exact AllReadyH.nil
      exact AllReadyH.nil
    · have HEn := hide (end_any bo g' A6 c6 xs err wr HOp.out)
      by_cases he : e = 0
      · subst he
        have hq : n = 0 ∨ err ≠ 0 := by
          by_cases h : n = 0
          · exact .inl h
          · exact .inr fun h2 => hgo ⟨by omega, rfl, h2⟩
        clear hgo
        by_cases hn0 : n = 0
        · have hnI : ¬ (0 : Int) < (n : Int) := by omega
          go_wp2_with fail
          refine HEn.out.mono ?_
          rintro e w8 ⟨rfl, rfl⟩
          by_cases hz : endErr xs err = 0
          · obtain ⟨rfl, rfl⟩ := end_zero hz
            have HHd := hide (HSe.out.end_' (hq.resolve_right (fun h => h rfl)))
            have HBy := hide (bytesB_any A c b wr HSt.out.mem HSt.out.bk)
            have b0 := HSt.out.box.cell 0
            simp only [List.getElem?_cons_zero] at b0
            rw [hz]
            clear hz hq
            go_wp2_with fail
            refine HBy.out.mono ?_
            rintro e w9 ⟨rfl, hb9⟩
            have HS9 := hide (HSt.out.below hb9)
            clear hb9 b0
            have b0 := HS9.out.box.cell 0
            have r0 := HS9.out.res.cell 0
            have rf := HS9.out.res.frozen 0
            simp only [List.getElem?_cons_zero] at b0 r0
            have HIff := hide (enc_iff HSt.out.bk s)
            generalize strOfNums (encB b) = sb at *
            by_cases hsb : sb = s
            · have HEq := hide (HIff.out.mp hsb)
              subst hsb
              have HG := hide (HS9.out.give A b.length c)
              have HTk := hide (take_all HHd.out)
              go_wp2_with fail
              refine bodyPost_ret (v := .tuple #[bkV A b.length c, .int .i64 0]) (ret_book Tryz.results7 _ _ w.heap.size A b.length c rfl HG.out.1) rfl ?_
              exact ⟨A, c, b, 0, rfl, (HS9.out.mem.give HS9.out.res (fun s h => by cases h)).mono (by simp), HG.out.2, .inl ⟨by rw [HTk.out, if_pos HEq.out], rfl⟩⟩
            · have hbe := beq_str_ne' hsb
              have HG := hide (HS9.out.give none 0 0)
              have HTk := hide (show takeP (nS s) = none by rw [take_all HHd.out, if_neg (fun h => hsb (HIff.out.mpr h))])
              clear hsb
              go_wp2_with fail
              exact bodyPost_ret (v := .tuple #[bkV none 0 0, .int .i64 3]) (ret_book Tryz.results7 _ _ w.heap.size none 0 0 rfl HG.out.1) rfl (takeQ_bad HG.out.2 HTk.out)
          · have hbe : (endErr xs err == 0) = false := beq_false_of_ne hz
            have HTk := hide (show takeP (nS s) = none from by
              rcases end_nz hz with h | h
              · exact take_none (HSe.out.bad (.inr h))
              · by_cases h1 : err = 0
                · exact take_left (HSe.out.end_' (hq.resolve_right (fun h => h h1)) h1) h
                · exact take_none (HSe.out.bad (.inr h1)))
            have r0 := HSt.out.res.cell 0
            have rf := HSt.out.res.frozen 0
            simp only [List.getElem?_cons_zero] at r0
            have HG := hide (HSt.out.give none 0 0)
            clear hq
            go_wp2_with fail
            exact bodyPost_ret (v := .tuple #[bkV none 0 0, .int .i64 3]) (ret_book Tryz.results7 _ _ w.heap.size none 0 0 rfl HG.out.1) rfl (takeQ_bad HG.out.2 HTk.out)
        · have hnI : (0 : Int) < (n : Int) := by omega
          have hee : (err == 0) = false := beq_false_of_ne (hq.resolve_left hn0)
          go_wp2_with fail
          refine HEr.out.mono ?_
          rintro e w7 ⟨rfl, rfl⟩
          go_wp2_with fail
          refine HEn.out.mono ?_
          rintro e w8 ⟨rfl, rfl⟩
          by_cases hz : endErr xs err = 0
          · obtain ⟨rfl, rfl⟩ := end_zero hz
            have HHd := hide (HSe.out.end_' (hq.resolve_right (fun h => h rfl)))
            have HBy := hide (bytesB_any A c b wr HSt.out.mem HSt.out.bk)
            have b0 := HSt.out.box.cell 0
            simp only [List.getElem?_cons_zero] at b0
            rw [hz]
            clear hz hq
            go_wp2_with fail
            refine HBy.out.mono ?_
            rintro e w9 ⟨rfl, hb9⟩
            have HS9 := hide (HSt.out.below hb9)
            clear hb9 b0
            have b0 := HS9.out.box.cell 0
            have r0 := HS9.out.res.cell 0
            have rf := HS9.out.res.frozen 0
            simp only [List.getElem?_cons_zero] at b0 r0
            have HIff := hide (enc_iff HSt.out.bk s)
            generalize strOfNums (encB b) = sb at *
            by_cases hsb : sb = s
            · have HEq := hide (HIff.out.mp hsb)
              subst hsb
              have HG := hide (HS9.out.give A b.length c)
              have HTk := hide (take_all HHd.out)
              go_wp2_with fail
              refine bodyPost_ret (v := .tuple #[bkV A b.length c, .int .i64 0]) (ret_book Tryz.results7 _ _ w.heap.size A b.length c rfl HG.out.1) rfl ?_
              exact ⟨A, c, b, 0, rfl, (HS9.out.mem.give HS9.out.res (fun s h => by cases h)).mono (by simp), HG.out.2, .inl ⟨by rw [HTk.out, if_pos HEq.out], rfl⟩⟩
            · have hbe := beq_str_ne' hsb
              have HG := hide (HS9.out.give none 0 0)
              have HTk := hide (show takeP (nS s) = none by rw [take_all HHd.out, if_neg (fun h => hsb (HIff.out.mpr h))])
              clear hsb
              go_wp2_with fail
              exact bodyPost_ret (v := .tuple #[bkV none 0 0, .int .i64 3]) (ret_book Tryz.results7 _ _ w.heap.size none 0 0 rfl HG.out.1) rfl (takeQ_bad HG.out.2 HTk.out)
          · have hbe : (endErr xs err == 0) = false := beq_false_of_ne hz
            have HTk := hide (show takeP (nS s) = none from by
              rcases end_nz hz with h | h
              · exact take_none (HSe.out.bad (.inr h))
              · by_cases h1 : err = 0
                · exact take_left (HSe.out.end_' (hq.resolve_right (fun h => h h1)) h1) h
                · exact take_none (HSe.out.bad (.inr h1)))
            have r0 := HSt.out.res.cell 0
            have rf := HSt.out.res.frozen 0
            simp only [List.getElem?_cons_zero] at r0
            have HG := hide (HSt.out.give none 0 0)
            clear hq
            go_wp2_with fail
            exact bodyPost_ret (v := .tuple #[bkV none 0 0, .int .i64 3]) (ret_book Tryz.results7 _ _ w.heap.size none 0 0 rfl HG.out.1) rfl (takeQ_bad HG.out.2 HTk.out)
      · have hee : (e == 0) = false := beq_false_of_ne he
        have HTk := hide (take_none (HSe.out.bad (.inl he)))
        have r0 := HSt.out.res.cell 0
        have rf := HSt.out.res.frozen 0
        simp only [List.getElem?_cons_zero] at r0
        have HG := hide (HSt.out.give none 0 0)
        clear hgo
        by_cases hn0 : n = 0
        · have hnI : ¬ (0 : Int) < (n : Int) := by omega
          go_wp2_with fail
          exact bodyPost_ret (v := .tuple #[bkV none 0 0, .int .i64 3]) (ret_book Tryz.results7 _ _ w.heap.size none 0 0 rfl HG.out.1) rfl (takeQ_bad HG.out.2 HTk.out)
        · have hnI : (0 : Int) < (n : Int) := by omega
          go_wp2_with fail
          exact bodyPost_ret (v := .tuple #[bkV none 0 0, .int .i64 3]) (ret_book Tryz.results7 _ _ w.heap.size none 0 0 rfl HG.out.1) rfl (takeQ_bad HG.out.2 HTk.out)
end Go.Proofs.YtokibbgahefkbaaGreatDoor.Fe
