/- Walk of sheet.Put: a sheet's sector. Walk of sheet.Take: the sheet of a sector. Walk of disk.New; what a caller knows of a disk. What a sector says as a head: plain words; wal.take in these words. Walk of wal.counts' closure: one sector is looked at. Walk of wal.counts. The disk in the words of its callers; the walks of wal.place, wal.other, wal.write. What a sector says as a sheet: plain words; sheet.Take in these words. Walk of wal.read. Walk of wal.next. Walk of wal.Format, on a disk that has neither a head nor a sheet. -/
import Derived.Test.YtnnfiicmplkakaaGreatDoorQ3
import Derived.Test.YtnnfiicmplkakaaGreatDoorQ2
import Derived.Laws.MakeOwn
import Derived.Maps.OwnSet
import Derived.StillTailTactics
import Derived.Maps.RangeWalk
namespace Go.Proofs.YtnnfiicmplkakaaGreatDoor
open Go.RowKit Go.Shelf

def kindOf (last : Bool) : Int := if last then 2 else 1
/-- a sheet's sector, ahead of its checksum -/
def sheetA (seq : Int) (last : Bool) (text : ByteArray) : List Int := [] ++ Pl.be 8 seq ++ Pl.be 1 (kindOf last) ++ Pl.be 2 text.size ++ bs text ++ List.replicate (497 - text.size) 0
def sheetB (seq : Int) (last : Bool) (text : ByteArray) : List Int := sheetA seq last text ++ Pl.be 4 (rev32 (crc (sheetA seq last text)))
theorem sheetA_len (seq : Int) (last : Bool) (text : ByteArray) (h : text.size ≤ 497) : (sheetA seq last text).length = 508 := by
  simp [sheetA, Pl.be_len, bs_len]
  omega
theorem sheetB_len (seq : Int) (last : Bool) (text : ByteArray) (h : text.size ≤ 497) : (sheetB seq last text).length = 512 := by
  rw [sheetB, List.length_append, sheetA_len _ _ _ h, Pl.be_len]
theorem sheetA_byt (seq : Int) (last : Bool) (text : ByteArray) : Byt (sheetA seq last text) :=
  Byt.app (Byt.app (Byt.app (Byt.app (Byt.app (fun x hx => by cases hx) (Pl.be_byt _ _)) (Pl.be_byt _ _)) (Pl.be_byt _ _)) (bs_byt text)) (zeros_byt _)
theorem sheetB_byt (seq : Int) (last : Bool) (text : ByteArray) : Byt (sheetB seq last text) := Byt.app (sheetA_byt _ _ _) (Pl.be_byt _ _)
/-- what Put of a sheet hands back -/
def SheetRes (seq : Int) (last : Bool) (text : ByteArray) (W : World) (e : Ending) (W' : World) : Prop :=
  ∃ A c, e = .returned (.tuple #[.slice A 512 c, .int .i64 0]) ∧ W'.ownsRow W.heap.size 5 1 (.slice A 512 c) 512 (bv (sheetB seq last text)) ∧ Below W.heap.size W W'
set_option maxHeartbeats 400000 in
theorem sheetput_far (seq : Int) (last : Bool) (text : ByteArray) (W : World) (hn : 497 < text.size) :
    Calls Tryz.prog 90 #[.agg #[.int .u64 seq, .bool last, .string text]] W fun e W' => e = .returned (.tuple #[.slice none 0 0, .int .i64 6]) ∧ Below W.heap.size W W' := by
  go_enter Tryz.func90, Tryz.ntmps90
  go_wp2_with fail
  go_ret2
  exact ⟨rfl, (Below.refl _ _).alloc (Nat.le_refl _) _⟩
set_option maxHeartbeats 4000000 in
set_option maxRecDepth 20000 in
theorem sheetput_any (seq : Int) (last : Bool) (text : ByteArray) (W : World) (hs0 : 0 ≤ seq) (hs1 : seq < 18446744073709551616) (hn : text.size ≤ 497) (ht : Tab W) :
    Calls Tryz.prog 90 #[.agg #[.int .u64 seq, .bool last, .string text]] W (SheetRes seq last text W) := by
  have HS := hide (show 0 ≤ seq ∧ seq < 2 ^ (8 * 8) from ⟨hs0, hs1⟩)
  have hw2 : IntKind.u64.wrap (text.size : Int) = text.size := by rw [IntKind.wrap_u64]; omega
  have HTab := hide ht
  clear hs0 hs1 ht
  have hb0 : Below W.heap.size W (W.alloc (.cells #[.int .u64 seq, .bool last, .string text] 125)) := (Below.refl _ _).alloc (Nat.le_refl _) _
  have hbox := Whole.new W [.int .u64 seq, .bool last, .string text] 125
  change Whole (W.alloc (.cells #[.int .u64 seq, .bool last, .string text] 125)) _ _ _ at hbox
  have HB0 := hide hb0
  have HBox := hide hbox
  have hbl := hbox.lt
  clear hb0 hbox
  cases hlast : last
  · subst hlast
    go_enter Tryz.func90, Tryz.ntmps90
    go_upto_region 6 with fail
    generalize W.alloc (.cells #[.int .u64 seq, .bool false, .string text] 125) = wb at *
    have b0 := HBox.out.cell 0
    have b1 := HBox.out.cell 1
    have b2 := HBox.out.cell 2
    go_cut [5] (fun s5 wx => ∃ bp v, s5 = .pointer (some ⟨bp, 0, none⟩) ∧ PkB wb wx bp v ([] ++ Pl.be 8 seq ++ Pl.be 1 1 ++ Pl.be 2 text.size ++ bs text))
    case first =>
      refine wp_region_held_drew (S := (fun w' => Below wb.heap.size wb w')) (by kernel_rfl) ((Below.refl _ _).drew) (fun hHeld => ?_)
      generalize wb.drew = wd at *
      refine wpAnyH_take (i := 1) (v := ?vaq1) rfl (by kernel_rfl) (by kernel_rfl) (by kernel_rfl) (fun _ _ _ h => h) (Or.inl ⟨by rfl, ?haq1⟩) (by assumption) ?raq1
      case haq1 => (intro wq hSw; go_simp; (try with_reducible rfl))
      try simp only [Act.put, List.getElem_toArray, List.getElem_cons_zero, List.getElem_cons_succ, List.setIfInBounds_toArray, List.set_cons_zero, List.set_cons_succ]
      refine wpAnyH_take (i := 2) (v := ?vaq2) rfl (by kernel_rfl) (by kernel_rfl) (by kernel_rfl) (fun _ _ _ h => h) (Or.inl ⟨by rfl, ?haq2⟩) (by assumption) ?raq2
      case haq2 => (intro wq hSw; have e := (hSw.cell (p := ⟨W.heap.size, 0, none⟩) hbl).trans b0; go_simp; (try with_reducible rfl))
      try simp only [Act.put, List.getElem_toArray, List.getElem_cons_zero, List.getElem_cons_succ, List.setIfInBounds_toArray, List.set_cons_zero, List.set_cons_succ]
      refine wpAnyH_take (i := 4) (v := ?vaq3) rfl (by kernel_rfl) (by kernel_rfl) (by kernel_rfl) (fun _ _ _ h => h) (Or.inl ⟨by rfl, ?haq3⟩) (by assumption) ?raq3
      case haq3 => (intro wq hSw; go_simp; (try with_reducible rfl))
      try simp only [Act.put, List.getElem_toArray, List.getElem_cons_zero, List.getElem_cons_succ, List.setIfInBounds_toArray, List.set_cons_zero, List.set_cons_succ]
      refine wpAnyH_take (i := 6) (v := ?vaq4) rfl (by kernel_rfl) (by kernel_rfl) (by kernel_rfl) (fun _ _ _ h => h) (Or.inl ⟨by rfl, ?haq4⟩) (by assumption) ?raq4
      case haq4 => (intro wq hSw; go_simp; (try with_reducible rfl))
      try simp only [Act.put, List.getElem_toArray, List.getElem_cons_zero, List.getElem_cons_succ, List.setIfInBounds_toArray, List.set_cons_zero, List.set_cons_succ]
      refine wpAnyH_take (i := 7) (v := ?vaq5) rfl (by kernel_rfl) (by kernel_rfl) (by kernel_rfl) (fun _ _ _ h => h) (Or.inl ⟨by rfl, ?haq5⟩) (by assumption) ?raq5
      case haq5 => (intro wq hSw; have e := (hSw.cell (p := ⟨W.heap.size, 2, none⟩) hbl).trans b2; go_simp; (try with_reducible rfl))
      try simp only [Act.put, List.getElem_toArray, List.getElem_cons_zero, List.getElem_cons_succ, List.setIfInBounds_toArray, List.set_cons_zero, List.set_cons_succ]
      refine wpAnyH_take (i := 8) (v := ?vaq6) rfl (by kernel_rfl) (by kernel_rfl) (by kernel_rfl) (fun _ _ _ h => h) (Or.inl ⟨by rfl, ?haq6⟩) (by assumption) ?raq6
      case haq6 => (intro wq hSw; go_simp; (try with_reducible rfl))
      try simp only [Act.put, List.getElem_toArray, List.getElem_cons_zero, List.getElem_cons_succ, List.setIfInBounds_toArray, List.set_cons_zero, List.set_cons_succ]
      refine wpAnyH_take (i := 9) (v := ?vaq7) rfl (by kernel_rfl) (by kernel_rfl) (by kernel_rfl) (fun _ _ _ h => h) (Or.inl ⟨by rfl, ?haq7⟩) (by assumption) ?raq7
      case haq7 => (intro wq hSw; go_simp; (try with_reducible rfl))
      try simp only [Act.put, List.getElem_toArray, List.getElem_cons_zero, List.getElem_cons_succ, List.setIfInBounds_toArray, List.set_cons_zero, List.set_cons_succ]
      refine wpAnyH_take (i := 11) (v := ?vaq8) rfl (by kernel_rfl) (by kernel_rfl) (by kernel_rfl) (fun _ _ _ h => h) (Or.inl ⟨by rfl, ?haq8⟩) (by assumption) ?raq8
      case haq8 => (intro wq hSw; go_simp; (try with_reducible rfl))
      try simp only [Act.put, List.getElem_toArray, List.getElem_cons_zero, List.getElem_cons_succ, List.setIfInBounds_toArray, List.set_cons_zero, List.set_cons_succ]
      refine wpAnyH_take (i := 12) (v := ?vaq9) rfl (by kernel_rfl) (by kernel_rfl) (by kernel_rfl) (fun _ _ _ h => h) (Or.inl ⟨by rfl, ?haq9⟩) (by assumption) ?raq9
      case haq9 => (intro wq hSw; have e := (hSw.cell (p := ⟨W.heap.size, 2, none⟩) hbl).trans b2; go_simp; (try with_reducible rfl))
      try simp only [Act.put, List.getElem_toArray, List.getElem_cons_zero, List.getElem_cons_succ, List.setIfInBounds_toArray, List.set_cons_zero, List.set_cons_succ]
      refine wpAnyH_ready (rs := [0]) (by kernel_rfl) (by simp) ?_
      refine AllReadyH.cons (o := _) rfl (fun K hK => ?_) AllReadyH.nil
      go_simp
      refine (new_any _).mono ?_
      rintro e w1 ⟨rfl, rfl⟩
      have HP0 := hide (PkB.start hHeld)
      generalize wd.alloc (.cells #[.slice none 0 0, .int .i64 0] 213) = wp at *
      generalize wd.heap.size = bp at *
      refine hK.out _ _ (HP0.out.bel) (fun hHeld => ?_)
      clear hK K 
      try simp only [Act.put, List.getElem_toArray, List.getElem_cons_zero, List.getElem_cons_succ, List.setIfInBounds_toArray, List.set_cons_zero, List.set_cons_succ]
      refine wpAnyH_ready (rs := [3]) (by kernel_rfl) (by simp) ?_
      refine AllReadyH.cons (o := _) rfl (fun K hK => ?_) AllReadyH.nil
      go_simp
      refine (HP0.out.put 8 seq (by simp) (by omega) HS.out.1 HS.out.2).mono ?_
      rintro e w2 ⟨v2, rfl, hp⟩
      have HP1 := hide hp
      clear hp
      refine hK.out _ _ (HP1.out.bel) (fun hHeld => ?_)
      clear hK K 
      try simp only [Act.put, List.getElem_toArray, List.getElem_cons_zero, List.getElem_cons_succ, List.setIfInBounds_toArray, List.set_cons_zero, List.set_cons_succ]
      refine wpAnyH_ready (rs := [5]) (by kernel_rfl) (by simp) ?_
      refine AllReadyH.cons (o := _) rfl (fun K hK => ?_) AllReadyH.nil
      go_simp
      refine (HP1.out.put 1 1 (by simp [Pl.be_len]) (by omega) (by omega) (by omega)).mono ?_
      rintro e w3 ⟨v3, rfl, hp⟩
      have HP2 := hide hp
      clear hp
      refine hK.out _ _ (HP2.out.bel) (fun hHeld => ?_)
      clear hK K 
      try simp only [Act.put, List.getElem_toArray, List.getElem_cons_zero, List.getElem_cons_succ, List.setIfInBounds_toArray, List.set_cons_zero, List.set_cons_succ]
      refine wpAnyH_ready (rs := [10]) (by kernel_rfl) (by simp) ?_
      refine AllReadyH.cons (o := _) rfl (fun K hK => ?_) AllReadyH.nil
      go_simp
      refine (HP2.out.put 2 text.size (by simp [Pl.be_len]) (by omega) (by omega) (by omega)).mono ?_
      rintro e w4 ⟨v4, rfl, hp⟩
      have HP3 := hide hp
      clear hp
      refine hK.out _ _ (HP3.out.bel) (fun hHeld => ?_)
      clear hK K 
      try simp only [Act.put, List.getElem_toArray, List.getElem_cons_zero, List.getElem_cons_succ, List.setIfInBounds_toArray, List.set_cons_zero, List.set_cons_succ]
      refine wpAnyH_ready (rs := [13]) (by kernel_rfl) (by simp) ?_
      refine AllReadyH.cons (o := _) rfl (fun K hK => ?_) AllReadyH.nil
      go_simp
      refine (HP3.out.text text (by simp [Pl.be_len]; omega)).mono ?_
      rintro e w5 ⟨v5, rfl, hp⟩
      have HP4 := hide hp
      clear hp
      refine hK.out _ _ (HP4.out.bel) (fun hHeld => ?_)
      clear hK K 
      try simp only [Act.put, List.getElem_toArray, List.getElem_cons_zero, List.getElem_cons_succ, List.setIfInBounds_toArray, List.set_cons_zero, List.set_cons_succ]
      refine wpAnyH_take (i := 14) (v := ?vaq10) rfl (by kernel_rfl) (by kernel_rfl) (by kernel_rfl) (fun _ _ _ h => h) (Or.inl ⟨by rfl, ?haq10⟩) (by assumption) ?raq10
      case haq10 => (intro wq hSw; go_simp; (try with_reducible rfl))
      try simp only [Act.put, List.getElem_toArray, List.getElem_cons_zero, List.getElem_cons_succ, List.setIfInBounds_toArray, List.set_cons_zero, List.set_cons_succ]
      refine wpAnyH_done (by kernel_rfl) ?_ _
      go_wp2_with fail
      go_meet
      exact ⟨_, _, rfl, HP4.out⟩
    case rest =>
      obtain ⟨bp, v, rfl, hp⟩ := hcut
      have HP := hide hp
      have c3 := (hp.bel.cell (p := ⟨W.heap.size, 2, none⟩) hbl).trans b2
      clear hp b0 b1 b2
      have hx4 : (497 : Int) - (text.size : Int) = ((497 - text.size : Nat) : Int) := by omega
      go_wp2_with fail
      refine (repeat_any (497 - text.size) wc (by omega)).mono ?_
      rintro e w1 ⟨rfl, hb⟩
      have HP1 := hide (HP.out.next hb)
      clear hb c3 HP
      go_wp2_with fail
      refine (HP1.out.text (zerosT (497 - text.size)) (by rw [zerosT_size]; simp [Pl.be_len, bs_len]; omega)).mono ?_
      rintro e w2 ⟨v2, rfl, hp⟩
      rw [zerosT_bs] at hp
      have HP2 := hide (show PkB wb w2 bp v2 (sheetA seq false text) from hp)
      clear hp HP1
      have HL := hide (sheetA_len seq false text (by omega))
      have HBy := hide (sheetA_byt seq false text)
      have HE := hide (show sheetA seq false text ++ Pl.be 4 (rev32 (crc (sheetA seq false text))) = sheetB seq false text from rfl)
      have HCr := hide (rev_bound (crc (sheetA seq false text)))
      have HLB := hide (sheetB_len seq false text (by omega))
      generalize sheetA seq false text = hA at *
      generalize hhB : sheetB seq false text = hB at HE HLB
      have HhB := hide hhB
      clear hhB
      go_wp2_with fail
      refine (HP2.out.bytes (by rw [HL.out]; decide)).mono ?_
      rintro e w3 ⟨A3, k3, rfl, hp, ho⟩
      have HP3 := hide hp
      have HM3 := hide (owns_mem ho)
      have HT3 := hide (HTab.out.below (HB0.out.trans (hp.bel.mono HB0.out.size)))
      clear hp ho HP2
      go_wp2_with fail
      refine (sum_any A3 hA k3 _ w3 HM3.out HBy.out (by rw [HL.out]; decide) HT3.out).mono ?_
      rintro e w4 ⟨rfl, rfl⟩
      generalize crc hA = cr0 at *
      go_wp2_with fail
      refine (rev_any cr0 w3).mono ?_
      rintro e w4 ⟨rfl, rfl⟩
      have hw4 : IntKind.u64.wrap (rev32 cr0) = rev32 cr0 := by rw [IntKind.wrap_u64]; have := HCr.out; omega
      generalize rev32 cr0 = cr at *
      go_wp2_with fail
      refine (HP3.out.put 4 cr (by rw [HL.out]; decide) (by omega) HCr.out.1 (by have := HCr.out.2; omega)).mono ?_
      rintro e w5 ⟨v5, rfl, hp⟩
      rw [HE.out] at hp
      have HP5 := hide hp
      clear hp HP3
      go_wp2_with fail
      refine (HP5.out.bytes (by rw [HLB.out]; decide)).mono ?_
      rintro e w6 ⟨A6, k6, rfl, hp, ho⟩
      rw [HLB.out] at ho ⊢
      have HP6 := hide hp
      have HO6 := hide (owns_base ho fun g hg => Nat.le_trans HB0.out.size (ho.lt g hg).1)
      have HB6 := hide (HB0.out.trans (hp.bel.mono HB0.out.size))
      clear hp ho
      go_wp2_with fail
      go_ret2
      exact ⟨A6, k6, rfl, by rw [HhB.out]; exact HO6.out, HB6.out⟩
  · subst hlast
    go_enter Tryz.func90, Tryz.ntmps90
    go_upto_region 6 with fail
    generalize W.alloc (.cells #[.int .u64 seq, .bool true, .string text] 125) = wb at *
    have b0 := HBox.out.cell 0
    have b1 := HBox.out.cell 1
    have b2 := HBox.out.cell 2
    go_cut [5] (fun s5 wx => ∃ bp v, s5 = .pointer (some ⟨bp, 0, none⟩) ∧ PkB wb wx bp v ([] ++ Pl.be 8 seq ++ Pl.be 1 2 ++ Pl.be 2 text.size ++ bs text))
    case first =>
      refine wp_region_held_drew (S := (fun w' => Below wb.heap.size wb w')) (by kernel_rfl) ((Below.refl _ _).drew) (fun hHeld => ?_)
      generalize wb.drew = wd at *
      refine wpAnyH_take (i := 1) (v := ?vbq1) rfl (by kernel_rfl) (by kernel_rfl) (by kernel_rfl) (fun _ _ _ h => h) (Or.inl ⟨by rfl, ?hbq1⟩) (by assumption) ?rbq1
      case hbq1 => (intro wq hSw; go_simp; (try with_reducible rfl))
      try simp only [Act.put, List.getElem_toArray, List.getElem_cons_zero, List.getElem_cons_succ, List.setIfInBounds_toArray, List.set_cons_zero, List.set_cons_succ]
      refine wpAnyH_take (i := 2) (v := ?vbq2) rfl (by kernel_rfl) (by kernel_rfl) (by kernel_rfl) (fun _ _ _ h => h) (Or.inl ⟨by rfl, ?hbq2⟩) (by assumption) ?rbq2
      case hbq2 => (intro wq hSw; have e := (hSw.cell (p := ⟨W.heap.size, 0, none⟩) hbl).trans b0; go_simp; (try with_reducible rfl))
      try simp only [Act.put, List.getElem_toArray, List.getElem_cons_zero, List.getElem_cons_succ, List.setIfInBounds_toArray, List.set_cons_zero, List.set_cons_succ]
      refine wpAnyH_take (i := 4) (v := ?vbq3) rfl (by kernel_rfl) (by kernel_rfl) (by kernel_rfl) (fun _ _ _ h => h) (Or.inl ⟨by rfl, ?hbq3⟩) (by assumption) ?rbq3
      case hbq3 => (intro wq hSw; go_simp; (try with_reducible rfl))
      try simp only [Act.put, List.getElem_toArray, List.getElem_cons_zero, List.getElem_cons_succ, List.setIfInBounds_toArray, List.set_cons_zero, List.set_cons_succ]
      refine wpAnyH_take (i := 6) (v := ?vbq4) rfl (by kernel_rfl) (by kernel_rfl) (by kernel_rfl) (fun _ _ _ h => h) (Or.inl ⟨by rfl, ?hbq4⟩) (by assumption) ?rbq4
      case hbq4 => (intro wq hSw; go_simp; (try with_reducible rfl))
      try simp only [Act.put, List.getElem_toArray, List.getElem_cons_zero, List.getElem_cons_succ, List.setIfInBounds_toArray, List.set_cons_zero, List.set_cons_succ]
      refine wpAnyH_take (i := 7) (v := ?vbq5) rfl (by kernel_rfl) (by kernel_rfl) (by kernel_rfl) (fun _ _ _ h => h) (Or.inl ⟨by rfl, ?hbq5⟩) (by assumption) ?rbq5
      case hbq5 => (intro wq hSw; have e := (hSw.cell (p := ⟨W.heap.size, 2, none⟩) hbl).trans b2; go_simp; (try with_reducible rfl))
      try simp only [Act.put, List.getElem_toArray, List.getElem_cons_zero, List.getElem_cons_succ, List.setIfInBounds_toArray, List.set_cons_zero, List.set_cons_succ]
      refine wpAnyH_take (i := 8) (v := ?vbq6) rfl (by kernel_rfl) (by kernel_rfl) (by kernel_rfl) (fun _ _ _ h => h) (Or.inl ⟨by rfl, ?hbq6⟩) (by assumption) ?rbq6
      case hbq6 => (intro wq hSw; go_simp; (try with_reducible rfl))
      try simp only [Act.put, List.getElem_toArray, List.getElem_cons_zero, List.getElem_cons_succ, List.setIfInBounds_toArray, List.set_cons_zero, List.set_cons_succ]
      refine wpAnyH_take (i := 9) (v := ?vbq7) rfl (by kernel_rfl) (by kernel_rfl) (by kernel_rfl) (fun _ _ _ h => h) (Or.inl ⟨by rfl, ?hbq7⟩) (by assumption) ?rbq7
      case hbq7 => (intro wq hSw; go_simp; (try with_reducible rfl))
      try simp only [Act.put, List.getElem_toArray, List.getElem_cons_zero, List.getElem_cons_succ, List.setIfInBounds_toArray, List.set_cons_zero, List.set_cons_succ]
      refine wpAnyH_take (i := 11) (v := ?vbq8) rfl (by kernel_rfl) (by kernel_rfl) (by kernel_rfl) (fun _ _ _ h => h) (Or.inl ⟨by rfl, ?hbq8⟩) (by assumption) ?rbq8
      case hbq8 => (intro wq hSw; go_simp; (try with_reducible rfl))
      try simp only [Act.put, List.getElem_toArray, List.getElem_cons_zero, List.getElem_cons_succ, List.setIfInBounds_toArray, List.set_cons_zero, List.set_cons_succ]
      refine wpAnyH_take (i := 12) (v := ?vbq9) rfl (by kernel_rfl) (by kernel_rfl) (by kernel_rfl) (fun _ _ _ h => h) (Or.inl ⟨by rfl, ?hbq9⟩) (by assumption) ?rbq9
      case hbq9 => (intro wq hSw; have e := (hSw.cell (p := ⟨W.heap.size, 2, none⟩) hbl).trans b2; go_simp; (try with_reducible rfl))
      try simp only [Act.put, List.getElem_toArray, List.getElem_cons_zero, List.getElem_cons_succ, List.setIfInBounds_toArray, List.set_cons_zero, List.set_cons_succ]
      refine wpAnyH_ready (rs := [0]) (by kernel_rfl) (by simp) ?_
      refine AllReadyH.cons (o := _) rfl (fun K hK => ?_) AllReadyH.nil
      go_simp
      refine (new_any _).mono ?_
      rintro e w1 ⟨rfl, rfl⟩
      have HP0 := hide (PkB.start hHeld)
      generalize wd.alloc (.cells #[.slice none 0 0, .int .i64 0] 213) = wp at *
      generalize wd.heap.size = bp at *
      refine hK.out _ _ (HP0.out.bel) (fun hHeld => ?_)
      clear hK K 
      try simp only [Act.put, List.getElem_toArray, List.getElem_cons_zero, List.getElem_cons_succ, List.setIfInBounds_toArray, List.set_cons_zero, List.set_cons_succ]
      refine wpAnyH_ready (rs := [3]) (by kernel_rfl) (by simp) ?_
      refine AllReadyH.cons (o := _) rfl (fun K hK => ?_) AllReadyH.nil
      go_simp
      refine (HP0.out.put 8 seq (by simp) (by omega) HS.out.1 HS.out.2).mono ?_
      rintro e w2 ⟨v2, rfl, hp⟩
      have HP1 := hide hp
      clear hp
      refine hK.out _ _ (HP1.out.bel) (fun hHeld => ?_)
      clear hK K 
      try simp only [Act.put, List.getElem_toArray, List.getElem_cons_zero, List.getElem_cons_succ, List.setIfInBounds_toArray, List.set_cons_zero, List.set_cons_succ]
      refine wpAnyH_ready (rs := [5]) (by kernel_rfl) (by simp) ?_
      refine AllReadyH.cons (o := _) rfl (fun K hK => ?_) AllReadyH.nil
      go_simp
      refine (HP1.out.put 1 2 (by simp [Pl.be_len]) (by omega) (by omega) (by omega)).mono ?_
      rintro e w3 ⟨v3, rfl, hp⟩
      have HP2 := hide hp
      clear hp
      refine hK.out _ _ (HP2.out.bel) (fun hHeld => ?_)
      clear hK K 
      try simp only [Act.put, List.getElem_toArray, List.getElem_cons_zero, List.getElem_cons_succ, List.setIfInBounds_toArray, List.set_cons_zero, List.set_cons_succ]
      refine wpAnyH_ready (rs := [10]) (by kernel_rfl) (by simp) ?_
      refine AllReadyH.cons (o := _) rfl (fun K hK => ?_) AllReadyH.nil
      go_simp
      refine (HP2.out.put 2 text.size (by simp [Pl.be_len]) (by omega) (by omega) (by omega)).mono ?_
      rintro e w4 ⟨v4, rfl, hp⟩
      have HP3 := hide hp
      clear hp
      refine hK.out _ _ (HP3.out.bel) (fun hHeld => ?_)
      clear hK K 
      try simp only [Act.put, List.getElem_toArray, List.getElem_cons_zero, List.getElem_cons_succ, List.setIfInBounds_toArray, List.set_cons_zero, List.set_cons_succ]
      refine wpAnyH_ready (rs := [13]) (by kernel_rfl) (by simp) ?_
      refine AllReadyH.cons (o := _) rfl (fun K hK => ?_) AllReadyH.nil
      go_simp
      refine (HP3.out.text text (by simp [Pl.be_len]; omega)).mono ?_
      rintro e w5 ⟨v5, rfl, hp⟩
      have HP4 := hide hp
      clear hp
      refine hK.out _ _ (HP4.out.bel) (fun hHeld => ?_)
      clear hK K 
      try simp only [Act.put, List.getElem_toArray, List.getElem_cons_zero, List.getElem_cons_succ, List.setIfInBounds_toArray, List.set_cons_zero, List.set_cons_succ]
      refine wpAnyH_take (i := 14) (v := ?vbq10) rfl (by kernel_rfl) (by kernel_rfl) (by kernel_rfl) (fun _ _ _ h => h) (Or.inl ⟨by rfl, ?hbq10⟩) (by assumption) ?rbq10
      case hbq10 => (intro wq hSw; go_simp; (try with_reducible rfl))
      try simp only [Act.put, List.getElem_toArray, List.getElem_cons_zero, List.getElem_cons_succ, List.setIfInBounds_toArray, List.set_cons_zero, List.set_cons_succ]
      refine wpAnyH_done (by kernel_rfl) ?_ _
      go_wp2_with fail
      go_meet
      exact ⟨_, _, rfl, HP4.out⟩
    case rest =>
      obtain ⟨bp, v, rfl, hp⟩ := hcut
      have HP := hide hp
      have c3 := (hp.bel.cell (p := ⟨W.heap.size, 2, none⟩) hbl).trans b2
      clear hp b0 b1 b2
      have hx4 : (497 : Int) - (text.size : Int) = ((497 - text.size : Nat) : Int) := by omega
      go_wp2_with fail
      refine (repeat_any (497 - text.size) wc (by omega)).mono ?_
      rintro e w1 ⟨rfl, hb⟩
      have HP1 := hide (HP.out.next hb)
      clear hb c3 HP
      go_wp2_with fail
      refine (HP1.out.text (zerosT (497 - text.size)) (by rw [zerosT_size]; simp [Pl.be_len, bs_len]; omega)).mono ?_
      rintro e w2 ⟨v2, rfl, hp⟩
      rw [zerosT_bs] at hp
      have HP2 := hide (show PkB wb w2 bp v2 (sheetA seq true text) from hp)
      clear hp HP1
      have HL := hide (sheetA_len seq true text (by omega))
      have HBy := hide (sheetA_byt seq true text)
      have HE := hide (show sheetA seq true text ++ Pl.be 4 (rev32 (crc (sheetA seq true text))) = sheetB seq true text from rfl)
      have HCr := hide (rev_bound (crc (sheetA seq true text)))
      have HLB := hide (sheetB_len seq true text (by omega))
      generalize sheetA seq true text = hA at *
      generalize hhB : sheetB seq true text = hB at HE HLB
      have HhB := hide hhB
      clear hhB
      go_wp2_with fail
      refine (HP2.out.bytes (by rw [HL.out]; decide)).mono ?_
      rintro e w3 ⟨A3, k3, rfl, hp, ho⟩
      have HP3 := hide hp
      have HM3 := hide (owns_mem ho)
      have HT3 := hide (HTab.out.below (HB0.out.trans (hp.bel.mono HB0.out.size)))
      clear hp ho HP2
      go_wp2_with fail
      refine (sum_any A3 hA k3 _ w3 HM3.out HBy.out (by rw [HL.out]; decide) HT3.out).mono ?_
      rintro e w4 ⟨rfl, rfl⟩
      generalize crc hA = cr0 at *
      go_wp2_with fail
      refine (rev_any cr0 w3).mono ?_
      rintro e w4 ⟨rfl, rfl⟩
      have hw4 : IntKind.u64.wrap (rev32 cr0) = rev32 cr0 := by rw [IntKind.wrap_u64]; have := HCr.out; omega
      generalize rev32 cr0 = cr at *
      go_wp2_with fail
      refine (HP3.out.put 4 cr (by rw [HL.out]; decide) (by omega) HCr.out.1 (by have := HCr.out.2; omega)).mono ?_
      rintro e w5 ⟨v5, rfl, hp⟩
      rw [HE.out] at hp
      have HP5 := hide hp
      clear hp HP3
      go_wp2_with fail
      refine (HP5.out.bytes (by rw [HLB.out]; decide)).mono ?_
      rintro e w6 ⟨A6, k6, rfl, hp, ho⟩
      rw [HLB.out] at ho ⊢
      have HP6 := hide hp
      have HO6 := hide (owns_base ho fun g hg => Nat.le_trans HB0.out.size (ho.lt g hg).1)
      have HB6 := hide (HB0.out.trans (hp.bel.mono HB0.out.size))
      clear hp ho
      go_wp2_with fail
      go_ret2
      exact ⟨A6, k6, rfl, by rw [HhB.out]; exact HO6.out, HB6.out⟩
end Go.Proofs.YtnnfiicmplkakaaGreatDoor
namespace Go.Proofs.YtnnfiicmplkakaaGreatDoor
open Go.RowKit Go.Shelf

theorem split_sheet {xs : List Int} (hl : xs.length = 512) : ∃ (p : List Int) (k : Int) (l rest : List Int), xs = p ++ (k :: (l ++ rest)) ∧ p.length = 8 ∧ l.length = 2 ∧ rest.length = 501 := by
  have h8 : 8 < xs.length := by omega
  refine ⟨xs.take 8, xs[8], (xs.drop 9).take 2, xs.drop 11, ?_, by rw [List.length_take]; omega, by rw [List.length_take, List.length_drop]; omega, by rw [List.length_drop]; omega⟩
  have e1 : xs.drop 8 = xs[8] :: xs.drop 9 := List.drop_eq_getElem_cons h8
  have e2 : xs.drop 9 = (xs.drop 9).take 2 ++ xs.drop 11 := by
    have := (List.take_append_drop 2 (xs.drop 9)).symm
    rwa [List.drop_drop] at this
  rw [← e2, ← e1]
  exact (List.take_append_drop 8 xs).symm
/-- an opener on its way, the result's box, and a box of the call's own -/
structure Ts (W Wi : World) (zs : List Value) (bh : Nat) (hs : List Value) (bo g : Nat) (A : Option Addr) (c : Nat) (rest : List Int) (err : Int) : Prop where
  tk : Tk W Wi 125 zs bo g A c rest err
  own : Whole Wi bh 125 hs
  ne : bh ≠ bo
  gt : W.heap.size < bh
  ng : bh ≠ g
section
variable {W Wi W' : World} {t : TypeId} {zs hs : List Value} {bh bo g : Nat} {A : Option Addr} {c : Nat} {rest : List Int} {err : Int}
theorem Ts.of_opn {rest' : List Int} {err' : Int} (h : Ts W Wi zs bh hs bo g A c rest err) (ho : OpnTo Wi bo g rest' err' W') : ∃ A' c', Ts W W' zs bh hs bo g A' c' rest' err' := by
  obtain ⟨A', c', ht⟩ := h.tk.of_opn ho
  obtain ⟨_, _, _, h2⟩ := ho
  exact ⟨A', c', ht, h.own.kp h2 h.ne, h.ne, h.gt, h.ng⟩
def TsRes (W : World) (zs : List Value) (bh : Nat) (hs : List Value) (bo g : Nat) (rest : List Int) (err : Int) (v : Value) (e : Ending) (W' : World) : Prop := ∃ A' c', e = .returned v ∧ Ts W W' zs bh hs bo g A' c' rest err
theorem Ts.take (h : Ts W Wi zs bh hs bo g A c rest 0) (k : Nat) (hk : k = 1 ∨ k = 2 ∨ k = 4 ∨ k = 8) (p q : List Int) (hr : rest = p ++ q) (hp : p.length = k) (hb : Byt rest) :
    Calls Tryz.prog 19 #[.pointer (some ⟨bo, 0, none⟩), .int .i64 k] Wi (TsRes W zs bh hs bo g q 0 (.int .u64 (Pl.un p))) := by
  subst hr
  subst hp
  refine (take_any bo g A c p.length (p ++ q) Wi h.tk.op hk (by simp) hb).mono fun e W' hh => ?_
  rw [List.take_left, List.drop_left] at hh
  obtain ⟨A', c', ht⟩ := h.of_opn hh.2
  exact ⟨A', c', hh.1, ht⟩
theorem Ts.text (n : Nat) (h : Ts W Wi zs bh hs bo g A c rest 0) (hn : n ≤ rest.length) :
    Calls Tryz.prog 89 #[.pointer (some ⟨bo, 0, none⟩), .int .i64 n] Wi (TsRes W zs bh hs bo g (rest.drop n) 0 (.string (strOfNums (rest.take n)))) := by
  refine (otext_any bo g A c n rest Wi h.tk.op hn).mono fun e W' hh => ?_
  obtain ⟨A', c', ht⟩ := h.of_opn hh.2
  exact ⟨A', c', hh.1, ht⟩
theorem Ts.far (n : Int) (h : Ts W Wi zs bh hs bo g A c rest 0) (hn : (rest.length : Int) < n) :
    Calls Tryz.prog 89 #[.pointer (some ⟨bo, 0, none⟩), .int .i64 n] Wi (TsRes W zs bh hs bo g rest 3 (.string ⟨#[]⟩)) := by
  refine (otext_far bo g A c n rest Wi h.tk.op hn).mono fun e W' hh => ?_
  obtain ⟨A', c', ht⟩ := h.of_opn hh.2
  exact ⟨A', c', hh.1, ht⟩
theorem Ts.set_ (h : Ts W Wi zs bh hs bo g A c rest err) (v : Value) : Ts W (Wi.setCell ⟨bh, 2, none⟩ v) zs bh (hs.set 2 v) bo g A c rest err := by
  have hk : Kp (OnlyF bh) Wi (Wi.setCell ⟨bh, 2, none⟩ v) := Kp.set_only _ _ _ _
  have hgt := h.gt
  exact ⟨⟨h.tk.bel.setCell (by show _ ≤ bh; omega) v, h.tk.box.kp hk (fun e => by unfold OnlyF at e; omega), h.tk.op.kp hk (fun e => h.ne e.symm) (fun e => h.ng e.symm), h.tk.lo, h.tk.lg⟩, h.own.set_ 2 v, h.ne, hgt, h.ng⟩
theorem Ts.call (h : Ts W Wi zs bh hs bo g A c rest err) (hb : Below Wi.heap.size Wi W') : Ts W W' zs bh hs bo g A c rest err :=
  ⟨h.tk.call hb, h.own.below hb h.own.lt, h.ne, h.gt, h.ng⟩
end
def badSheet : Value := .tuple #[.agg #[.int .u64 0, .bool false, .string ⟨#[]⟩], .int .i64 3]
/-- what Take answers of a sector whose text's length is in bounds -/
def sheetV (seq : Int) (last : Bool) (text : ByteArray) (xs : List Int) : Value := if sheetB seq last text = xs then .tuple #[.agg #[.int .u64 seq, .bool last, .string text], .int .i64 0] else badSheet
set_option maxHeartbeats 2000000 in
set_option maxRecDepth 20000 in
theorem sheettake_far (p l rest : List Int) (k : Int) (n : Nat) (A : Option Addr) (c : Nat) (W : World) (hp : p.length = 8) (hl2 : l.length = 2) (hrest : rest.length = 501) (hln : Pl.un l = n) (hn : 501 < n)
    (hb : Byt (p ++ (k :: (l ++ rest)))) (hm : Mem W W.heap.size A (bv (p ++ (k :: (l ++ rest))))) (ht : Tab W) :
    Calls Tryz.prog 57 #[.slice A 512 c] W fun e W' => e = .returned badSheet ∧ Below W.heap.size W W' := by
  have hl : (p ++ (k :: (l ++ rest))).length = 512 := by simp [hp, hl2, hrest]
  have HB1 := hide hb.right
  have HB2 := hide (show Byt (l ++ rest) from fun x hx => hb.right x (List.mem_cons_of_mem _ hx))
  have HBy := hide hb
  have HL := hide hl
  have HM := hide hm
  have HTab := hide ht
  have hbz : Below W.heap.size W (W.alloc (.cells #[.int .u64 0, .bool false, .string ⟨#[]⟩] 125)) := (Below.refl _ _).alloc (Nat.le_refl _) _
  have hbox := Whole.new W [.int .u64 0, .bool false, .string ⟨#[]⟩] 125
  have hz1 : (W.alloc (.cells #[.int .u64 0, .bool false, .string ⟨#[]⟩] 125)).heap.size = W.heap.size + 1 := by simp
  change Whole (W.alloc (.cells #[.int .u64 0, .bool false, .string ⟨#[]⟩] 125)) _ _ _ at hbox
  have HBz := hide hbz
  have HBox := hide hbox
  have hG := Pl.un_bound p fun x hx => hb.left x hx
  rw [hp] at hG
  have hn16 : n < 65536 := by
    have := (Pl.un_bound l fun x hx => hb.right (x := x) (List.mem_cons_of_mem _ (List.mem_append_left _ hx))).2
    rw [hl2, hln] at this
    have e : (256 : Int) ^ 2 = 65536 := by decide
    omega
  have HLn := hide hln
  have hk1 : Pl.un [k] = k := by simp [Pl.un]
  have HK1 := hide hk1
  have HG := hide hG
  clear hb hl hm ht hbz hbox hG hln hk1
  generalize hgen : Pl.un p = seq at *
  generalize hlast : (k == 2) = last at *
  have HGen := hide hgen
  clear hgen
  go_enter Tryz.func57, Tryz.ntmps57
  go_wp2_with fail
  generalize W.alloc (.cells #[.int .u64 0, .bool false, .string ⟨#[]⟩] 125) = wz at *
  have hof := of_any A _ c wz ((HM.out.below HBz.out).mono HBz.out.size) (by rw [HL.out]; decide)
  rw [HL.out] at hof
  refine hof.mono ?_
  rintro e w1 ⟨bo, g, A1, c1, rfl, ho, hb, hb1, hb2⟩
  have HQ1 := hide (show Tk W w1 125 [.int .u64 0, .bool false, .string ⟨#[]⟩] bo g A1 c1 (p ++ (k :: (l ++ rest))) 0 from ⟨HBz.out.trans (hb.mono HBz.out.size), HBox.out.below hb HBox.out.lt, ho, by omega, by omega⟩)
  clear ho hb hb1 hb2 hof HBz HBox
  go_wp2_with fail
  refine (HQ1.out.take 8 (by simp) p _ rfl hp HBy.out).mono ?_
  rintro e w2 ⟨A2, c2, rfl, hk⟩
  rw [HGen.out]
  have HQ2 := hide hk
  clear hk HQ1
  go_wp2_with fail
  refine (HQ2.out.take 1 (by simp) [k] _ rfl rfl HB1.out).mono ?_
  rintro e w3 ⟨A3, c3, rfl, hk⟩
  rw [HK1.out]
  have HQ3 := hide hk
  clear hk HQ2
  go_wp2_with fail
  have hb4 : Below w3.heap.size w3 (w3.alloc (.cells #[.int .u64 seq, .bool last, .string ⟨#[]⟩] 125)) := (Below.refl _ _).alloc (Nat.le_refl _) _
  have hbx4 := Whole.new w3 [.int .u64 seq, .bool last, .string ⟨#[]⟩] 125
  change Whole (w3.alloc (.cells #[.int .u64 seq, .bool last, .string ⟨#[]⟩] 125)) _ _ _ at hbx4
  have hgt : W.heap.size < w3.heap.size := HQ3.out.box.lt
  have hlo : bo < w3.heap.size := HQ3.out.op.box.lt
  have hgw : g < w3.heap.size := by
    obtain ⟨_, _, h, _⟩ := HQ3.out.op.mem (show 0 < (l ++ rest).length by rw [List.length_append]; omega)
    exact h
  have HQ4 := hide (show Ts W (w3.alloc (.cells #[.int .u64 seq, .bool last, .string ⟨#[]⟩] 125)) _ w3.heap.size _ bo g A3 c3 (l ++ rest) 0 from ⟨HQ3.out.call hb4, hbx4, by omega, hgt, by omega⟩)
  clear HQ3 hb4 hbx4 hgw
  generalize w3.alloc (.cells #[.int .u64 seq, .bool last, .string ⟨#[]⟩] 125) = w4 at *
  generalize w3.heap.size = bh at *
  have hne : ¬ W.heap.size = bh := by omega
  have hne2 : ¬ bh = W.heap.size := by omega
  refine (HQ4.out.take 2 (by simp) l _ rfl hl2 HB2.out).mono ?_
  rintro e w5 ⟨A5, c5, rfl, hk⟩
  rw [HLn.out]
  have HQ5 := hide hk
  clear hk HQ4
  have hw : IntKind.i64.wrap (n : Int) = n := IntWalk.i64_in _ (by omega)
  go_wp2_with fail
  refine (HQ5.out.far n (by omega)).mono ?_
  rintro e w6 ⟨A6, c6, rfl, hk⟩
  have HQ6 := hide hk
  clear hk HQ5
  have q2 := HQ6.out.own.cell 2
  have r2 := HQ6.out.own.frozen 2
  go_upto_region 4 with fail
  have HQ7 := hide (HQ6.out.set_ (.string ⟨#[]⟩))
  clear HQ6 q2 r2
  generalize w6.setCell ⟨bh, 2, none⟩ (.string ⟨#[]⟩) = w7 at *
  have q0 := HQ7.out.own.cell 0
  have q1 := HQ7.out.own.cell 1
  have q2 := HQ7.out.own.cell 2
  go_wp2_with fail
  refine (sheetput_any seq last ⟨#[]⟩ w7 HG.out.1 (by have := HG.out.2; omega) (by decide) (HTab.out.below HQ7.out.tk.bel)).mono ?_
  rintro e w8 ⟨A8, c8, rfl, ho, hb⟩
  have HQ8 := hide (HQ7.out.call hb)
  have HO8 := hide (owns_mem ho)
  clear hb ho HQ7 q0 q1 q2
  have q0 := HQ8.out.own.cell 0
  have q1 := HQ8.out.own.cell 1
  have q2 := HQ8.out.own.cell 2
  have z0 := HQ8.out.tk.box.cell 0
  have z1 := HQ8.out.tk.box.cell 1
  have z2 := HQ8.out.tk.box.cell 2
  have f0 := HQ8.out.tk.box.frozen 0
  have f1 := HQ8.out.tk.box.frozen 1
  have f2 := HQ8.out.tk.box.frozen 2
  have HEr := hide (err_any bo g A6 c6 _ 3 w8 HQ8.out.tk.op)
  go_wp2_with fail
  refine HEr.out.mono ?_
  rintro e w9 ⟨rfl, rfl⟩
  go_wp2_with fail
  have h1 := ((HQ8.out.tk.box.set_ 0 (.int .u64 0)).set_ 1 (.bool false)).set_ 2 (.string ⟨#[]⟩)
  have HBf := hide (((HQ8.out.tk.bel.setCell (p := ⟨W.heap.size, 0, none⟩) (Nat.le_refl _) (.int .u64 0)).setCell (p := ⟨W.heap.size, 1, none⟩) (Nat.le_refl _) (.bool false)).setCell (p := ⟨W.heap.size, 2, none⟩) (Nat.le_refl _) (.string ⟨#[]⟩))
  generalize ((w8.setCell ⟨W.heap.size, 0, none⟩ (.int .u64 0)).setCell ⟨W.heap.size, 1, none⟩ (.bool false)).setCell ⟨W.heap.size, 2, none⟩ (.string ⟨#[]⟩) = wf at *
  clear z0 z1 z2 f0 f1 f2 q0 q1 q2
  have k0 := h1.cell 0
  have k1 := h1.cell 1
  have k2 := h1.cell 2
  exact bodyPost_ret (v := .tuple #[.agg #[.int .u64 0, .bool false, .string ⟨#[]⟩], .int .i64 3]) (by simp [results, Tryz.results57, go_sem, k0, k1, k2]) rfl ⟨rfl, HBf.out⟩

set_option maxHeartbeats 2000000 in
set_option maxRecDepth 20000 in
theorem sheettake_mid (p l rest : List Int) (k : Int) (n : Nat) (A : Option Addr) (c : Nat) (W : World) (hp : p.length = 8) (hl2 : l.length = 2) (hrest : rest.length = 501) (hln : Pl.un l = n) (hn : 497 < n) (hn2 : n ≤ 501)
    (hb : Byt (p ++ (k :: (l ++ rest)))) (hm : Mem W W.heap.size A (bv (p ++ (k :: (l ++ rest))))) (ht : Tab W) :
    Calls Tryz.prog 57 #[.slice A 512 c] W fun e W' => e = .returned badSheet ∧ Below W.heap.size W W' := by
  have hl : (p ++ (k :: (l ++ rest))).length = 512 := by simp [hp, hl2, hrest]
  have HB1 := hide hb.right
  have HB2 := hide (show Byt (l ++ rest) from fun x hx => hb.right x (List.mem_cons_of_mem _ hx))
  have HBy := hide hb
  have HL := hide hl
  have HM := hide hm
  have HTab := hide ht
  have hbz : Below W.heap.size W (W.alloc (.cells #[.int .u64 0, .bool false, .string ⟨#[]⟩] 125)) := (Below.refl _ _).alloc (Nat.le_refl _) _
  have hbox := Whole.new W [.int .u64 0, .bool false, .string ⟨#[]⟩] 125
  have hz1 : (W.alloc (.cells #[.int .u64 0, .bool false, .string ⟨#[]⟩] 125)).heap.size = W.heap.size + 1 := by simp
  change Whole (W.alloc (.cells #[.int .u64 0, .bool false, .string ⟨#[]⟩] 125)) _ _ _ at hbox
  have HBz := hide hbz
  have HBox := hide hbox
  have hG := Pl.un_bound p fun x hx => hb.left x hx
  rw [hp] at hG
  have hn16 : n < 65536 := by
    have := (Pl.un_bound l fun x hx => hb.right (x := x) (List.mem_cons_of_mem _ (List.mem_append_left _ hx))).2
    rw [hl2, hln] at this
    have e : (256 : Int) ^ 2 = 65536 := by decide
    omega
  have HLn := hide hln
  have hk1 : Pl.un [k] = k := by simp [Pl.un]
  have HK1 := hide hk1
  have HG := hide hG
  clear hb hl hm ht hbz hbox hG hln hk1
  generalize hgen : Pl.un p = seq at *
  generalize hlast : (k == 2) = last at *
  have hnt : (strOfNums (rest.take n)).size = n := by rw [strOfNums_size, List.length_take]; omega
  generalize hnot : strOfNums (rest.take n) = nt at *
  have HGen := hide hgen
  have HNot := hide hnot
  have hnt2 : 497 < nt.size := by omega
  clear hgen hnot hnt
  go_enter Tryz.func57, Tryz.ntmps57
  go_wp2_with fail
  generalize W.alloc (.cells #[.int .u64 0, .bool false, .string ⟨#[]⟩] 125) = wz at *
  have hof := of_any A _ c wz ((HM.out.below HBz.out).mono HBz.out.size) (by rw [HL.out]; decide)
  rw [HL.out] at hof
  refine hof.mono ?_
  rintro e w1 ⟨bo, g, A1, c1, rfl, ho, hb, hb1, hb2⟩
  have HQ1 := hide (show Tk W w1 125 [.int .u64 0, .bool false, .string ⟨#[]⟩] bo g A1 c1 (p ++ (k :: (l ++ rest))) 0 from ⟨HBz.out.trans (hb.mono HBz.out.size), HBox.out.below hb HBox.out.lt, ho, by omega, by omega⟩)
  clear ho hb hb1 hb2 hof HBz HBox
  go_wp2_with fail
  refine (HQ1.out.take 8 (by simp) p _ rfl hp HBy.out).mono ?_
  rintro e w2 ⟨A2, c2, rfl, hk⟩
  rw [HGen.out]
  have HQ2 := hide hk
  clear hk HQ1
  go_wp2_with fail
  refine (HQ2.out.take 1 (by simp) [k] _ rfl rfl HB1.out).mono ?_
  rintro e w3 ⟨A3, c3, rfl, hk⟩
  rw [HK1.out]
  have HQ3 := hide hk
  clear hk HQ2
  go_wp2_with fail
  have hb4 : Below w3.heap.size w3 (w3.alloc (.cells #[.int .u64 seq, .bool last, .string ⟨#[]⟩] 125)) := (Below.refl _ _).alloc (Nat.le_refl _) _
  have hbx4 := Whole.new w3 [.int .u64 seq, .bool last, .string ⟨#[]⟩] 125
  change Whole (w3.alloc (.cells #[.int .u64 seq, .bool last, .string ⟨#[]⟩] 125)) _ _ _ at hbx4
  have hgt : W.heap.size < w3.heap.size := HQ3.out.box.lt
  have hlo : bo < w3.heap.size := HQ3.out.op.box.lt
  have hgw : g < w3.heap.size := by
    obtain ⟨_, _, h, _⟩ := HQ3.out.op.mem (show 0 < (l ++ rest).length by rw [List.length_append]; omega)
    exact h
  have HQ4 := hide (show Ts W (w3.alloc (.cells #[.int .u64 seq, .bool last, .string ⟨#[]⟩] 125)) _ w3.heap.size _ bo g A3 c3 (l ++ rest) 0 from ⟨HQ3.out.call hb4, hbx4, by omega, hgt, by omega⟩)
  clear HQ3 hb4 hbx4 hgw
  generalize w3.alloc (.cells #[.int .u64 seq, .bool last, .string ⟨#[]⟩] 125) = w4 at *
  generalize w3.heap.size = bh at *
  have hne : ¬ W.heap.size = bh := by omega
  have hne2 : ¬ bh = W.heap.size := by omega
  refine (HQ4.out.take 2 (by simp) l _ rfl hl2 HB2.out).mono ?_
  rintro e w5 ⟨A5, c5, rfl, hk⟩
  rw [HLn.out]
  have HQ5 := hide hk
  clear hk HQ4
  have hw : IntKind.i64.wrap (n : Int) = n := IntWalk.i64_in _ (by omega)
  go_wp2_with fail
  refine (HQ5.out.text n (by omega)).mono ?_
  rintro e w6 ⟨A6, c6, rfl, hk⟩
  rw [HNot.out]
  have HQ6 := hide hk
  clear hk HQ5
  have q2 := HQ6.out.own.cell 2
  have r2 := HQ6.out.own.frozen 2
  go_upto_region 4 with fail
  have HQ7 := hide (HQ6.out.set_ (.string nt))
  clear HQ6 q2 r2
  generalize w6.setCell ⟨bh, 2, none⟩ (.string nt) = w7 at *
  have q0 := HQ7.out.own.cell 0
  have q1 := HQ7.out.own.cell 1
  have q2 := HQ7.out.own.cell 2
  go_wp2_with fail
  refine (sheetput_far seq last nt w7 hnt2).mono ?_
  rintro e w8 ⟨rfl, hb⟩
  have HQ8 := hide (HQ7.out.call hb)
  clear hb HQ7 q0 q1 q2
  have q0 := HQ8.out.own.cell 0
  have q1 := HQ8.out.own.cell 1
  have q2 := HQ8.out.own.cell 2
  have z0 := HQ8.out.tk.box.cell 0
  have z1 := HQ8.out.tk.box.cell 1
  have z2 := HQ8.out.tk.box.cell 2
  have f0 := HQ8.out.tk.box.frozen 0
  have f1 := HQ8.out.tk.box.frozen 1
  have f2 := HQ8.out.tk.box.frozen 2
  have HEr := hide (err_any bo g A6 c6 _ 0 w8 HQ8.out.tk.op)
  go_wp2_with fail
  refine HEr.out.mono ?_
  rintro e w9 ⟨rfl, rfl⟩
  go_wp2_with fail
  have h1 := ((HQ8.out.tk.box.set_ 0 (.int .u64 0)).set_ 1 (.bool false)).set_ 2 (.string ⟨#[]⟩)
  have HBf := hide (((HQ8.out.tk.bel.setCell (p := ⟨W.heap.size, 0, none⟩) (Nat.le_refl _) (.int .u64 0)).setCell (p := ⟨W.heap.size, 1, none⟩) (Nat.le_refl _) (.bool false)).setCell (p := ⟨W.heap.size, 2, none⟩) (Nat.le_refl _) (.string ⟨#[]⟩))
  generalize ((w8.setCell ⟨W.heap.size, 0, none⟩ (.int .u64 0)).setCell ⟨W.heap.size, 1, none⟩ (.bool false)).setCell ⟨W.heap.size, 2, none⟩ (.string ⟨#[]⟩) = wf at *
  clear z0 z1 z2 f0 f1 f2 q0 q1 q2
  have k0 := h1.cell 0
  have k1 := h1.cell 1
  have k2 := h1.cell 2
  exact bodyPost_ret (v := .tuple #[.agg #[.int .u64 0, .bool false, .string ⟨#[]⟩], .int .i64 3]) (by simp [results, Tryz.results57, go_sem, k0, k1, k2]) rfl ⟨rfl, HBf.out⟩

set_option maxHeartbeats 2000000 in
set_option maxRecDepth 20000 in
theorem sheettake_ok (p l rest : List Int) (k : Int) (n : Nat) (A : Option Addr) (c : Nat) (W : World) (hp : p.length = 8) (hl2 : l.length = 2) (hrest : rest.length = 501) (hln : Pl.un l = n) (hn : n ≤ 497)
    (hb : Byt (p ++ (k :: (l ++ rest)))) (hm : Mem W W.heap.size A (bv (p ++ (k :: (l ++ rest))))) (ht : Tab W) :
    Calls Tryz.prog 57 #[.slice A 512 c] W fun e W' => e = .returned (sheetV (Pl.un p) (k == 2) (strOfNums (rest.take n)) (p ++ (k :: (l ++ rest)))) ∧ Below W.heap.size W W' := by
  have hl : (p ++ (k :: (l ++ rest))).length = 512 := by simp [hp, hl2, hrest]
  have HB1 := hide hb.right
  have HB2 := hide (show Byt (l ++ rest) from fun x hx => hb.right x (List.mem_cons_of_mem _ hx))
  have HBy := hide hb
  have HL := hide hl
  have HM := hide hm
  have HTab := hide ht
  have hbz : Below W.heap.size W (W.alloc (.cells #[.int .u64 0, .bool false, .string ⟨#[]⟩] 125)) := (Below.refl _ _).alloc (Nat.le_refl _) _
  have hbox := Whole.new W [.int .u64 0, .bool false, .string ⟨#[]⟩] 125
  have hz1 : (W.alloc (.cells #[.int .u64 0, .bool false, .string ⟨#[]⟩] 125)).heap.size = W.heap.size + 1 := by simp
  change Whole (W.alloc (.cells #[.int .u64 0, .bool false, .string ⟨#[]⟩] 125)) _ _ _ at hbox
  have HBz := hide hbz
  have HBox := hide hbox
  have hG := Pl.un_bound p fun x hx => hb.left x hx
  rw [hp] at hG
  have hn16 : n < 65536 := by
    have := (Pl.un_bound l fun x hx => hb.right (x := x) (List.mem_cons_of_mem _ (List.mem_append_left _ hx))).2
    rw [hl2, hln] at this
    have e : (256 : Int) ^ 2 = 65536 := by decide
    omega
  have HLn := hide hln
  have hk1 : Pl.un [k] = k := by simp [Pl.un]
  have HK1 := hide hk1
  have HG := hide hG
  clear hb hl hm ht hbz hbox hG hln hk1
  generalize hgen : Pl.un p = seq at *
  generalize hlast : (k == 2) = last at *
  have hnt : (strOfNums (rest.take n)).size = n := by rw [strOfNums_size, List.length_take]; omega
  generalize hnot : strOfNums (rest.take n) = nt at *
  have HGen := hide hgen
  have HNot := hide hnot
  have HNt := hide hnt
  clear hgen hnot hnt
  go_enter Tryz.func57, Tryz.ntmps57
  go_wp2_with fail
  generalize W.alloc (.cells #[.int .u64 0, .bool false, .string ⟨#[]⟩] 125) = wz at *
  have hof := of_any A _ c wz ((HM.out.below HBz.out).mono HBz.out.size) (by rw [HL.out]; decide)
  rw [HL.out] at hof
  refine hof.mono ?_
  rintro e w1 ⟨bo, g, A1, c1, rfl, ho, hb, hb1, hb2⟩
  have HQ1 := hide (show Tk W w1 125 [.int .u64 0, .bool false, .string ⟨#[]⟩] bo g A1 c1 (p ++ (k :: (l ++ rest))) 0 from ⟨HBz.out.trans (hb.mono HBz.out.size), HBox.out.below hb HBox.out.lt, ho, by omega, by omega⟩)
  clear ho hb hb1 hb2 hof HBz HBox
  go_wp2_with fail
  refine (HQ1.out.take 8 (by simp) p _ rfl hp HBy.out).mono ?_
  rintro e w2 ⟨A2, c2, rfl, hk⟩
  rw [HGen.out]
  have HQ2 := hide hk
  clear hk HQ1
  go_wp2_with fail
  refine (HQ2.out.take 1 (by simp) [k] _ rfl rfl HB1.out).mono ?_
  rintro e w3 ⟨A3, c3, rfl, hk⟩
  rw [HK1.out]
  have HQ3 := hide hk
  clear hk HQ2
  go_wp2_with fail
  have hb4 : Below w3.heap.size w3 (w3.alloc (.cells #[.int .u64 seq, .bool last, .string ⟨#[]⟩] 125)) := (Below.refl _ _).alloc (Nat.le_refl _) _
  have hbx4 := Whole.new w3 [.int .u64 seq, .bool last, .string ⟨#[]⟩] 125
  change Whole (w3.alloc (.cells #[.int .u64 seq, .bool last, .string ⟨#[]⟩] 125)) _ _ _ at hbx4
  have hgt : W.heap.size < w3.heap.size := HQ3.out.box.lt
  have hlo : bo < w3.heap.size := HQ3.out.op.box.lt
  have hgw : g < w3.heap.size := by
    obtain ⟨_, _, h, _⟩ := HQ3.out.op.mem (show 0 < (l ++ rest).length by rw [List.length_append]; omega)
    exact h
  have HQ4 := hide (show Ts W (w3.alloc (.cells #[.int .u64 seq, .bool last, .string ⟨#[]⟩] 125)) _ w3.heap.size _ bo g A3 c3 (l ++ rest) 0 from ⟨HQ3.out.call hb4, hbx4, by omega, hgt, by omega⟩)
  clear HQ3 hb4 hbx4 hgw
  generalize w3.alloc (.cells #[.int .u64 seq, .bool last, .string ⟨#[]⟩] 125) = w4 at *
  generalize w3.heap.size = bh at *
  have hne : ¬ W.heap.size = bh := by omega
  have hne2 : ¬ bh = W.heap.size := by omega
  refine (HQ4.out.take 2 (by simp) l _ rfl hl2 HB2.out).mono ?_
  rintro e w5 ⟨A5, c5, rfl, hk⟩
  rw [HLn.out]
  have HQ5 := hide hk
  clear hk HQ4
  have hw : IntKind.i64.wrap (n : Int) = n := IntWalk.i64_in _ (by omega)
  go_wp2_with fail
  refine (HQ5.out.text n (by omega)).mono ?_
  rintro e w6 ⟨A6, c6, rfl, hk⟩
  rw [HNot.out]
  have HQ6 := hide hk
  clear hk HQ5
  have q2 := HQ6.out.own.cell 2
  have r2 := HQ6.out.own.frozen 2
  go_upto_region 4 with fail
  have HQ7 := hide (HQ6.out.set_ (.string nt))
  clear HQ6 q2 r2
  generalize w6.setCell ⟨bh, 2, none⟩ (.string nt) = w7 at *
  have q0 := HQ7.out.own.cell 0
  have q1 := HQ7.out.own.cell 1
  have q2 := HQ7.out.own.cell 2
  go_wp2_with fail
  refine (sheetput_any seq last nt w7 HG.out.1 (by have := HG.out.2; omega) (by have := HNt.out; omega) (HTab.out.below HQ7.out.tk.bel)).mono ?_
  rintro e w8 ⟨A8, c8, rfl, ho, hb⟩
  have HQ8 := hide (HQ7.out.call hb)
  have HO8 := hide (owns_mem ho)
  clear hb ho HQ7 q0 q1 q2
  have q0 := HQ8.out.own.cell 0
  have q1 := HQ8.out.own.cell 1
  have q2 := HQ8.out.own.cell 2
  have z0 := HQ8.out.tk.box.cell 0
  have z1 := HQ8.out.tk.box.cell 1
  have z2 := HQ8.out.tk.box.cell 2
  have f0 := HQ8.out.tk.box.frozen 0
  have f1 := HQ8.out.tk.box.frozen 1
  have f2 := HQ8.out.tk.box.frozen 2
  have HEr := hide (err_any bo g A6 c6 _ 0 w8 HQ8.out.tk.op)
  go_wp2_with fail
  refine HEr.out.mono ?_
  rintro e w9 ⟨rfl, rfl⟩
  have hlb := sheetB_len seq last nt (by have := HNt.out; omega)
  have heq := equal_any A8 A (sheetB seq last nt) (p ++ (k :: (l ++ rest))) c8 c _ _ w8 HO8.out (HM.out.below HQ8.out.tk.bel) (sheetB_byt _ _ _) HBy.out
  rw [hlb, HL.out] at heq
  have HEq := hide heq
  clear heq hlb
  go_wp2_with fail
  refine HEq.out.mono ?_
  rintro e w10 ⟨rfl, rfl⟩
  by_cases hx : sheetB seq last nt = p ++ (k :: (l ++ rest))
  · have hd := decide_eq_true hx
    have HX := hide hx
    clear hx
    generalize decide (sheetB seq last nt = p ++ (k :: (l ++ rest))) = bb at *
    subst hd
    go_wp2_with fail
    have h1 := ((HQ8.out.tk.box.set_ 0 (.int .u64 seq)).set_ 1 (.bool last)).set_ 2 (.string nt)
    have HBf := hide (((HQ8.out.tk.bel.setCell (p := ⟨W.heap.size, 0, none⟩) (Nat.le_refl _) (.int .u64 seq)).setCell (p := ⟨W.heap.size, 1, none⟩) (Nat.le_refl _) (.bool last)).setCell (p := ⟨W.heap.size, 2, none⟩) (Nat.le_refl _) (.string nt))
    generalize ((w8.setCell ⟨W.heap.size, 0, none⟩ (.int .u64 seq)).setCell ⟨W.heap.size, 1, none⟩ (.bool last)).setCell ⟨W.heap.size, 2, none⟩ (.string nt) = wf at *
    clear z0 z1 z2 f0 f1 f2 q0 q1 q2
    have k0 := h1.cell 0
    have k1 := h1.cell 1
    have k2 := h1.cell 2
    exact bodyPost_ret (v := .tuple #[.agg #[.int .u64 seq, .bool last, .string nt], .int .i64 0]) (by simp [results, Tryz.results57, go_sem, k0, k1, k2]) rfl ⟨by rw [sheetV, if_pos HX.out], HBf.out⟩
  · have hd := decide_eq_false hx
    have HX := hide hx
    clear hx
    generalize decide (sheetB seq last nt = p ++ (k :: (l ++ rest))) = bb at *
    subst hd
    go_wp2_with fail
    have h1 := ((HQ8.out.tk.box.set_ 0 (.int .u64 0)).set_ 1 (.bool false)).set_ 2 (.string ⟨#[]⟩)
    have HBf := hide (((HQ8.out.tk.bel.setCell (p := ⟨W.heap.size, 0, none⟩) (Nat.le_refl _) (.int .u64 0)).setCell (p := ⟨W.heap.size, 1, none⟩) (Nat.le_refl _) (.bool false)).setCell (p := ⟨W.heap.size, 2, none⟩) (Nat.le_refl _) (.string ⟨#[]⟩))
    generalize ((w8.setCell ⟨W.heap.size, 0, none⟩ (.int .u64 0)).setCell ⟨W.heap.size, 1, none⟩ (.bool false)).setCell ⟨W.heap.size, 2, none⟩ (.string ⟨#[]⟩) = wf at *
    clear z0 z1 z2 f0 f1 f2 q0 q1 q2
    have k0 := h1.cell 0
    have k1 := h1.cell 1
    have k2 := h1.cell 2
    exact bodyPost_ret (v := .tuple #[.agg #[.int .u64 0, .bool false, .string ⟨#[]⟩], .int .i64 3]) (by simp [results, Tryz.results57, go_sem, k0, k1, k2]) rfl ⟨by rw [sheetV, if_neg HX.out]; rfl, HBf.out⟩

end Go.Proofs.YtnnfiicmplkakaaGreatDoor
namespace Go.Proofs.YtnnfiicmplkakaaGreatDoor
open Go.RowKit Go.Shelf

theorem zsec_rep : Tryz.zeroCells177 = Array.replicate 512 (.int .u8 0) := by kernel_rfl
theorem infoSec : ∃ i, Tryz.prog.info? 177 = some i ∧ i.zero = some (.agg Tryz.zeroCells177) ∧ i.size = 512 ∧ i.bytes = 512 := info_parts (by kernel_rfl)
def zeros (k : Nat) : List Int := List.replicate k 0
theorem made_get (n j : Nat) (hj : j < n * 512) : (madeCells Tryz.zeroCells177 (n * 512))[j]? = some (.int .u8 0) := by
  rw [zsec_rep]
  unfold madeCells
  have h : j % 512 < 512 := Nat.mod_lt _ (by decide)
  simp [hj, h]
theorem dk_new (w : World) (n : Nat) (hn : 1 ≤ n) : Dk ((w.alloc (.cells (madeCells Tryz.zeroCells177 (n * 512)) 177)).alloc (.cells #[.int .i64 (-1), .string ⟨#[]⟩, .slice (some ⟨w.heap.size, 0, none⟩) n n, .slice none 0 0, .bool false, .int .u64 0] 76)) (w.heap.size + 1) w.heap.size n (.slice none 0 0) (fun _ => zeros 512) [] 0 := by
  have h1 : (w.alloc (.cells (madeCells Tryz.zeroCells177 (n * 512)) 177)).heap[w.heap.size]? = some (.cells (madeCells Tryz.zeroCells177 (n * 512)) 177) := heap_alloc_new w _
  have hsz : (w.alloc (.cells (madeCells Tryz.zeroCells177 (n * 512)) 177)).heap.size = w.heap.size + 1 := by simp
  have hg := made_get n
  generalize madeCells Tryz.zeroCells177 (n * 512) = cs at *
  generalize w.alloc (.cells cs 177) = w1 at *
  have hb : Below w1.heap.size w1 (w1.alloc (.cells #[.int .i64 (-1), .string ⟨#[]⟩, .slice (some ⟨w.heap.size, 0, none⟩) n n, .slice none 0 0, .bool false, .int .u64 0] 76)) := (Below.refl _ _).alloc (Nat.le_refl _) _
  have h2 := Whole.new w1 [.int .i64 (-1), .string ⟨#[]⟩, .slice (some ⟨w.heap.size, 0, none⟩) n n, .slice none 0 0, .bool false, .int .u64 0] 76
  rw [hsz] at h2
  change Whole (w1.alloc (.cells #[.int .i64 (-1), .string ⟨#[]⟩, .slice (some ⟨w.heap.size, 0, none⟩) n n, .slice none 0 0, .bool false, .int .u64 0] 76)) _ _ _ at h2
  have h3 := hb.block w.heap.size (by omega)
  have h4 := h2.lt
  generalize w1.alloc (.cells #[.int .i64 (-1), .string ⟨#[]⟩, .slice (some ⟨w.heap.size, 0, none⟩) n n, .slice none 0 0, .bool false, .int .u64 0] 76) = w2 at *
  have h5 : w2.heap[w.heap.size]? = some (.cells cs 177) := h3.trans h1
  have hc : ∀ j, j < n * 512 → w2.cell? ⟨w.heap.size, j, none⟩ = some (.int .u8 0) := fun j hj => by
    unfold World.cell?
    simp only [h5]
    exact hg j hj
  refine ⟨h2, fun i hi j v hv => ?_, fun j hj => ⟨by rw [Nat.zero_add, hc j hj]; rfl, by unfold World.frozen?; simp [h5]⟩, by omega, fun i _ => ⟨List.length_replicate, zeros_byt 512⟩, ⟨rfl, .inl ⟨rfl, rfl⟩⟩, (fun x hx => by cases hx), by omega, (fun e => by cases e)⟩
  obtain ⟨hj, hv'⟩ := List.getElem?_eq_some_iff.1 hv
  simp only [bv_len, zeros, List.length_replicate] at hj
  have h6 : (i + 1) * 512 ≤ n * 512 := Nat.mul_le_mul_right _ hi
  rw [hc (i * 512 + j) (by omega), ← hv']
  simp only [bv, zeros, List.getElem_map, List.getElem_replicate]
set_option maxHeartbeats 1000000 in
set_option maxRecDepth 20000 in
theorem dnew_any (n : Nat) (w : World) (h1 : 1 ≤ n) (h2 : n ≤ 4096) : Calls Tryz.prog 12 #[.int .i64 n] w fun e w' => ∃ bd bon, e = .returned (.tuple #[.pointer (some ⟨bd, 0, none⟩), .int .i64 0]) ∧ Dk w' bd bon n (.slice none 0 0) (fun _ => zeros 512) [] 0 ∧ Below w.heap.size w w' ∧ w.heap.size ≤ bd ∧ w.heap.size ≤ bon := by
  obtain ⟨i0, hi0, hz0, hz1, hz2⟩ := infoSec
  have hmk := run_make (P := Tryz.prog) w 73 177 i0 _ Tryz.underlying73 hi0 hz0 .i64 .i64 n n (by omega) (Int.le_refl _) (by rw [hz2]; omega) (by omega)
  rw [hz1] at hmk
  have hmk2 : (Instr.makeSlice 73 (.int .i64 n) (.int .i64 n)).run Tryz.prog w = .ok (.slice (some ⟨w.heap.size, 0, none⟩) n n) (w.alloc (.cells (madeCells Tryz.zeroCells177 (n * 512)) 177)) := hmk
  have HD := hide (dk_new w n h1)
  have HB := hide (show Below w.heap.size w ((w.alloc (.cells (madeCells Tryz.zeroCells177 (n * 512)) 177)).alloc (.cells #[.int .i64 (-1), .string ⟨#[]⟩, .slice (some ⟨w.heap.size, 0, none⟩) n n, .slice none 0 0, .bool false, .int .u64 0] 76)) from ((Below.refl _ _).alloc (Nat.le_refl _) _).alloc (by simp) _)
  clear hmk hz0 hz1 hz2 hi0
  generalize madeCells Tryz.zeroCells177 (n * 512) = cs at *
  go_enter Tryz.func12, Tryz.ntmps12
  go_wp2
  go_ret2
  exact ⟨_, _, rfl, HD.out, HB.out, by omega, Nat.le_refl _⟩
end Go.Proofs.YtnnfiicmplkakaaGreatDoor
namespace Go.Proofs.YtnnfiicmplkakaaGreatDoor
open Go.RowKit Go.Shelf

structure Hd where
  gen : Int
  first : Int
  sec : Nat
  note : ByteArray
def Hd.good (h : Hd) : Prop := (0 ≤ h.gen ∧ h.gen < 18446744073709551616) ∧ (0 ≤ h.first ∧ h.first < 18446744073709551616) ∧ h.sec < 65536 ∧ h.note.size ≤ 64
def Hd.bytes (h : Hd) : List Int := headB h.gen h.first h.sec h.note
def Hd.val (h : Hd) : Value := .agg #[.int .u64 h.gen, .int .u64 h.first, .int .i64 (h.sec : Int), .string h.note]
def Hd.cells (h : Hd) : List Value := [.int .u64 h.gen, .int .u64 h.first, .int .i64 (h.sec : Int), .string h.note]
def hd0 : Hd := ⟨0, 0, 0, ⟨#[]⟩⟩
/-- what a sector says: a head, or none -/
def HdIs (b : List Int) (o : Option Hd) : Prop := (b.length = 512 ∧ Byt b) ∧ match o with
  | some h => h.good ∧ b = h.bytes
  | none => ∀ h : Hd, h.good → b ≠ h.bytes
theorem un_beTo (k : Nat) (n : Int) (h0 : 0 ≤ n) : ∀ j, j ≤ k → n < 256 ^ k → Pl.un (Pl.beTo k n j) = n / 256 ^ (k - j) := by
  intro j
  induction j with
  | zero =>
    intro _ hn
    have e : n / 256 ^ (k - 0) = 0 := Int.ediv_eq_zero_of_lt h0 (by simpa using hn)
    rw [e]
    rfl
  | succ j ih =>
    intro hj hn
    have hp : (2 : Int) ^ (8 * (k - 1 - j)) = 256 ^ (k - (j + 1)) := by
      have e : (2 : Int) ^ 8 = 256 := by decide
      rw [show k - (j + 1) = k - 1 - j by omega, Int.pow_mul, e]
    rw [Pl.beTo_step, Pl.un_snoc, ih (by omega) hn, hp]
    have e1 : k - j = k - (j + 1) + 1 := by omega
    rw [e1, Int.pow_succ]
    have e2 : n / (256 ^ (k - (j + 1)) * 256) = n / 256 ^ (k - (j + 1)) / 256 := by
      have hpp : (0 : Int) < 256 ^ (k - (j + 1)) := Int.pow_pos (by decide)
      rw [Int.ediv_ediv, if_neg (fun h => by omega), Int.sub_zero]
    rw [e2]
    have := Int.emod_add_mul_ediv (n / 256 ^ (k - (j + 1))) 256
    omega
theorem un_be (k : Nat) (n : Int) (h0 : 0 ≤ n) (hn : n < 256 ^ k) : Pl.un (Pl.be k n) = n := by
  have := un_beTo k n h0 k (Nat.le_refl _) hn
  rw [Nat.sub_self, Int.pow_zero, Int.ediv_one] at this
  exact this
theorem nums_bs (s : ByteArray) : strOfNums (bs s) = s := by
  have h : (strOfNums (bs s)).data.toList = s.data.toList := by
    rw [strOfNums_data]
    unfold bs
    rw [List.map_map]
    conv => rhs; rw [← List.map_id s.data.toList]
    refine List.map_congr_left fun c _ => ?_
    simp only [Function.comp, id, Int.toNat_natCast, UInt8.ofNat_toNat]
  cases s with
  | mk d =>
    have h2 : (strOfNums (bs ⟨d⟩)).data = d := Array.toList_inj.1 h
    calc strOfNums (bs ⟨d⟩) = ⟨(strOfNums (bs ⟨d⟩)).data⟩ := rfl
      _ = ⟨d⟩ := by rw [h2]
theorem hd_parts (h : Hd) : h.bytes = Pl.be 8 h.gen ++ (Pl.be 8 h.first ++ (Pl.be 2 h.sec ++ ((h.note.size : Int) :: (bs h.note ++ List.replicate (489 - h.note.size) 0 ++ Pl.be 4 (crc (headA h.gen h.first h.sec h.note)))))) := by
  simp [Hd.bytes, headB, headA, List.append_assoc]
/-- take, of a sector that says a head or none -/
def TakeRes (o : Option Hd) (W : World) (e : Ending) (W' : World) : Prop := (∃ h : Hd, h.good ∧ e = .returned (.tuple #[h.val, .bool o.isSome]) ∧ (∀ h', o = some h' → h = h')) ∧ Below W.heap.size W W'
theorem take_hd (b : List Int) (o : Option Hd) (A : Option Addr) (c : Nat) (W : World) (hb : HdIs b o) (hm : Mem W W.heap.size A (bv b)) (ht : Tab W) :
    Calls Tryz.prog 56 #[.slice A 512 c] W (TakeRes o W) := by
  obtain ⟨⟨hl, hby⟩, ho⟩ := hb
  obtain ⟨p, q, r, n, rest, rfl, hp, hq, hr, hn, hrest⟩ := split_head hl hby
  refine (waltake_any p q r rest n A c W hp hq hr hn hrest hby hm ht).mono fun e W' hh => ?_
  obtain ⟨rfl, hbl⟩ := hh
  refine ⟨?_, hbl⟩
  have hG := Pl.un_bound p fun x hx => hby.left x hx
  have hF := Pl.un_bound q fun x hx => hby.right.left x hx
  have hR := Pl.un_bound r fun x hx => hby.right.right.left x hx
  rw [hp] at hG
  rw [hq] at hF
  rw [hr] at hR
  have e8 : (256 : Int) ^ 8 = 18446744073709551616 := by decide
  have e2 : (256 : Int) ^ 2 = 65536 := by decide
  rw [e8] at hG hF
  rw [e2] at hR
  have hnt : (strOfNums (rest.take n)).size = n := by rw [strOfNums_size, List.length_take]; omega
  unfold takeV
  rw [hnt]
  by_cases hbig : 64 < n
  · rw [if_pos hbig]
    cases o with
    | none => exact ⟨hd0, by unfold Hd.good hd0; decide, rfl, fun h' e => by cases e⟩
    | some h =>
      exfalso
      obtain ⟨hg, he⟩ := ho
      rw [hd_parts] at he
      have h1 := List.append_inj he (by rw [hp, Pl.be_len])
      have h2 := List.append_inj h1.2 (by rw [hq, Pl.be_len])
      have h3 := List.append_inj h2.2 (by rw [hr, Pl.be_len])
      have h4 := (List.cons.inj h3.2).1
      have := hg.2.2.2
      omega
  · rw [if_neg hbig]
    have hsec : Pl.un r = ((Pl.un r).toNat : Int) := by omega
    have hgood : (⟨Pl.un p, Pl.un q, (Pl.un r).toNat, strOfNums (rest.take n)⟩ : Hd).good := ⟨hG, hF, by show (Pl.un r).toNat < 65536; omega, by show (strOfNums (rest.take n)).size ≤ 64; omega⟩
    refine ⟨⟨Pl.un p, Pl.un q, (Pl.un r).toNat, strOfNums (rest.take n)⟩, hgood, ?_, ?_⟩
    · have hd : decide (headB (Pl.un p) (Pl.un q) (Pl.un r).toNat (strOfNums (rest.take n)) = p ++ (q ++ (r ++ ((n : Int) :: rest)))) = o.isSome := by
        cases o with
        | none =>
          rw [decide_eq_false]
          · rfl
          · exact fun e => ho _ hgood e.symm
        | some h =>
          rw [decide_eq_true]
          · rfl
          · obtain ⟨hg, he⟩ := ho
            have he' := he
            rw [hd_parts] at he
            have h1 := List.append_inj he (by rw [hp, Pl.be_len])
            have h2 := List.append_inj h1.2 (by rw [hq, Pl.be_len])
            have h3 := List.append_inj h2.2 (by rw [hr, Pl.be_len])
            obtain ⟨h4, h5⟩ := List.cons.inj h3.2
            have h4' : n = h.note.size := by omega
            subst h4'
            rw [h1.1, h2.1, h3.1, h5, un_be 8 _ hg.1.1 (by rw [e8]; exact hg.1.2), un_be 8 _ hg.2.1.1 (by rw [e8]; exact hg.2.1.2), un_be 2 _ (by omega) (by rw [e2]; have := hg.2.2.1; omega), Int.toNat_natCast]
            have e : (bs h.note ++ List.replicate (489 - h.note.size) 0 ++ Pl.be 4 (crc (headA h.gen h.first h.sec h.note))).take h.note.size = bs h.note := by
              rw [List.append_assoc, List.take_append_of_le_length (by rw [bs_len]; exact Nat.le_refl _), List.take_of_length_le (by rw [bs_len]; exact Nat.le_refl _)]
            rw [e, nums_bs, ← hd_parts]
            rfl
      rw [hd]
      simp only [Hd.val]
      rw [← hsec]
    · intro h' e
      subst e
      obtain ⟨hg, he⟩ := ho
      rw [hd_parts] at he
      have h1 := List.append_inj he (by rw [hp, Pl.be_len])
      have h2 := List.append_inj h1.2 (by rw [hq, Pl.be_len])
      have h3 := List.append_inj h2.2 (by rw [hr, Pl.be_len])
      obtain ⟨h4, h5⟩ := List.cons.inj h3.2
      have h4' : n = h'.note.size := by omega
      subst h4'
      have e : (bs h'.note ++ List.replicate (489 - h'.note.size) 0 ++ Pl.be 4 (crc (headA h'.gen h'.first h'.sec h'.note))).take h'.note.size = bs h'.note := by
        rw [List.append_assoc, List.take_append_of_le_length (by rw [bs_len]; exact Nat.le_refl _), List.take_of_length_le (by rw [bs_len]; exact Nat.le_refl _)]
      rw [h1.1, h2.1, h3.1, h5, un_be 8 _ hg.1.1 (by rw [e8]; exact hg.1.2), un_be 8 _ hg.2.1.1 (by rw [e8]; exact hg.2.1.2), un_be 2 _ (by omega) (by rw [e2]; have := hg.2.2.1; omega), Int.toNat_natCast, e, nums_bs]
end Go.Proofs.YtnnfiicmplkakaaGreatDoor
namespace Go.Proofs.YtnnfiicmplkakaaGreatDoor
open Go.RowKit Go.Shelf

abbrev Best := Option (Hd × Nat)
def Best.hd (o : Best) : Hd := match o with | none => hd0 | some x => x.1
def Best.at (o : Best) : Int := match o with | none => -1 | some x => x.2
def Best.upd (o : Best) (x : Option Hd) (i : Nat) : Best := match x with
  | none => o
  | some h => match o with
    | none => some (h, i)
    | some y => if y.1.gen < h.gen then some (h, i) else some y
structure Bst (W : World) (b5 b6 : Nat) (o : Best) : Prop where
  box5 : Whole W b5 84 o.hd.cells
  box6 : Whole W b6 3 [.int .i64 o.at]
  ne : b5 ≠ b6
def TwoF (a b : Nat) : Nat → Prop := fun k => k = a ∨ k = b
theorem Bst.below {W W' : World} {b5 b6 : Nat} {o : Best} (h : Bst W b5 b6 o) (hb : Below W.heap.size W W') : Bst W' b5 b6 o := ⟨h.box5.below hb h.box5.lt, h.box6.below hb h.box6.lt, h.ne⟩
theorem Bst.put {W : World} {b5 b6 : Nat} {o : Best} (h : Bst W b5 b6 o) (x : Hd) (i : Nat) :
    Bst (((((W.setCell ⟨b5, 0, none⟩ (.int .u64 x.gen)).setCell ⟨b5, 1, none⟩ (.int .u64 x.first)).setCell ⟨b5, 2, none⟩ (.int .i64 (x.sec : Int))).setCell ⟨b5, 3, none⟩ (.string x.note)).setCell ⟨b6, 0, none⟩ (.int .i64 (i : Int))) b5 b6 (some (x, i)) := by
  have h1 := (((h.box5.set_ 0 (.int .u64 x.gen)).set_ 1 (.int .u64 x.first)).set_ 2 (.int .i64 (x.sec : Int))).set_ 3 (.string x.note)
  have hk : Kp (OnlyF b5) W ((((W.setCell ⟨b5, 0, none⟩ (.int .u64 x.gen)).setCell ⟨b5, 1, none⟩ (.int .u64 x.first)).setCell ⟨b5, 2, none⟩ (.int .i64 (x.sec : Int))).setCell ⟨b5, 3, none⟩ (.string x.note)) :=
    (((Kp.set_only W b5 0 _).same (Kp.set_only _ b5 1 _)).same (Kp.set_only _ b5 2 _)).same (Kp.set_only _ b5 3 _)
  have h2 := h.box6.kp hk (fun e => h.ne e.symm)
  generalize (((W.setCell ⟨b5, 0, none⟩ (.int .u64 x.gen)).setCell ⟨b5, 1, none⟩ (.int .u64 x.first)).setCell ⟨b5, 2, none⟩ (.int .i64 (x.sec : Int))).setCell ⟨b5, 3, none⟩ (.string x.note) = W2 at *
  exact ⟨h1.kp (Kp.set_only W2 b6 0 _) (fun e => h.ne e), h2.set_ 0 _, h.ne⟩
/-- behind a look -/
def LookRes (b5 b6 : Nat) (o : Best) (W : World) (e : Ending) (W' : World) : Prop := e = .returned (.int .i64 0) ∧ Bst W' b5 b6 o ∧ Kp (TwoF b5 b6) W W'
set_option maxHeartbeats 2000000 in
set_option maxRecDepth 20000 in
theorem look_any (bd bon n : Nat) (wv : Value) (on : Nat → List Int) (wt : List (List Int × Nat)) (acts : Int) (b1 b5 b6 i : Nat) (o : Best) (x : Option Hd) (W : World) (h : Dk W bd bon n wv on wt acts) (hi : i < n) (hl : wt.length ≤ 100000)
    (hb : Bst W b5 b6 o) (h1 : W.cell? ⟨b1, 0, none⟩ = some (.pointer (some ⟨bd, 0, none⟩))) (hx : HdIs (rd on wt i) x) (ht : Tab W) (ho : ∀ y, o = some y → y.1.good) :
    Calls Tryz.prog 54 #[.int .i64 i, .pointer (some ⟨b1, 0, none⟩), .pointer (some ⟨b6, 0, none⟩), .pointer (some ⟨b5, 0, none⟩)] W (LookRes b5 b6 (o.upd x i) W) := by
  have HRd := hide (read_any bd bon n wv on wt acts i W h hi hl)
  have HBs := hide hb
  have HX := hide hx
  have HT := hide ht
  clear h hb hx ht
  go_enter Tryz.func54, Tryz.ntmps54
  go_wp2_with fail
  refine HRd.out.mono ?_
  rintro e w1 ⟨A, rfl, hm, hb⟩
  have HM := hide hm
  have HB1 := hide hb
  clear hm hb
  go_wp2_with fail
  refine (take_hd _ x A 512 w1 HX.out HM.out (HT.out.below HB1.out)).mono ?_
  rintro e w2 ⟨⟨g, hg, rfl, hgx⟩, hb⟩
  have HB2 := hide (HB1.out.trans (hb.mono HB1.out.size))
  have HGx := hide hgx
  have HGg := hide hg
  clear hb hgx hg HB1 HM HRd
  unfold Hd.val
  have hb3 : Below W.heap.size W (w2.alloc (.cells #[.int .u64 g.gen, .int .u64 g.first, .int .i64 (g.sec : Int), .string g.note] 84)) := HB2.out.alloc HB2.out.size _
  have hbx := Whole.new w2 [.int .u64 g.gen, .int .u64 g.first, .int .i64 (g.sec : Int), .string g.note] 84
  change Whole (w2.alloc (.cells #[.int .u64 g.gen, .int .u64 g.first, .int .i64 (g.sec : Int), .string g.note] 84)) _ _ _ at hbx
  have HB3 := hide hb3
  have HBx := hide hbx
  have hlt5 : b5 < w2.heap.size := Nat.lt_of_lt_of_le HBs.out.box5.lt HB2.out.size
  have hlt6 : b6 < w2.heap.size := Nat.lt_of_lt_of_le HBs.out.box6.lt HB2.out.size
  clear hb3 hbx
  go_upto_region 3 with fail
  generalize w2.alloc (.cells #[.int .u64 g.gen, .int .u64 g.first, .int .i64 (g.sec : Int), .string g.note] 84) = w3 at *
  generalize w2.heap.size = b8 at *
  have HS3 := hide (HBs.out.below HB3.out)
  cases x with
  | none =>
    simp only [Option.isSome_none]
    go_wp2_with fail
    go_ret
    exact ⟨rfl, HS3.out, Kp.of_below HB3.out⟩
  | some hh =>
    simp only [Option.isSome_some]
    obtain rfl : g = hh := HGx.out hh rfl
    have g0 : w3.cell? ⟨b8, 0, none⟩ = some (.int .u64 g.gen) := HBx.out.cell 0
    have g1 : w3.cell? ⟨b8, 1, none⟩ = some (.int .u64 g.first) := HBx.out.cell 1
    have g2 : w3.cell? ⟨b8, 2, none⟩ = some (.int .i64 g.sec) := HBx.out.cell 2
    have g3 : w3.cell? ⟨b8, 3, none⟩ = some (.string g.note) := HBx.out.cell 3
    have a0 : w3.cell? ⟨b5, 0, none⟩ = some (.int .u64 o.hd.gen) := HS3.out.box5.cell 0
    have a1 : w3.cell? ⟨b5, 1, none⟩ = some (.int .u64 o.hd.first) := HS3.out.box5.cell 1
    have a2 : w3.cell? ⟨b5, 2, none⟩ = some (.int .i64 o.hd.sec) := HS3.out.box5.cell 2
    have a3 : w3.cell? ⟨b5, 3, none⟩ = some (.string o.hd.note) := HS3.out.box5.cell 3
    have x0 := HS3.out.box5.frozen 0
    have x1 := HS3.out.box5.frozen 1
    have x2 := HS3.out.box5.frozen 2
    have x3 := HS3.out.box5.frozen 3
    have a6 : w3.cell? ⟨b6, 0, none⟩ = some (.int .i64 o.at) := HS3.out.box6.cell 0
    have x6 := HS3.out.box6.frozen 0
    have n1 : ¬ b5 = b8 := by omega
    have n2 : ¬ b8 = b5 := by omega
    have n3 : ¬ b6 = b8 := by omega
    have n4 : ¬ b8 = b6 := by omega
    have n5 := HS3.out.ne
    have n6 : ¬ b6 = b5 := fun e => n5 e.symm
    have HP := hide (HS3.out.put g i)
    have HKp := hide (show Kp (TwoF b5 b6) W (((((w3.setCell ⟨b5, 0, none⟩ (.int .u64 g.gen)).setCell ⟨b5, 1, none⟩ (.int .u64 g.first)).setCell ⟨b5, 2, none⟩ (.int .i64 (g.sec : Int))).setCell ⟨b5, 3, none⟩ (.string g.note)).setCell ⟨b6, 0, none⟩ (.int .i64 (i : Int))) from
      (((((Kp.of_below HB3.out).setCell (.inl (.inl rfl)) _).setCell (.inl (.inl rfl)) _).setCell (.inl (.inl rfl)) _).setCell (.inl (.inl rfl)) _).setCell (.inl (.inr rfl)) _)
    cases o with
    | none =>
      have q6 : w3.cell? ⟨b6, 0, none⟩ = some (.int .i64 (-1)) := a6
      clear a6
      go_wp2_with fail
      go_ret
      exact ⟨rfl, HP.out, HKp.out⟩
    | some y =>
      obtain ⟨y, iy⟩ := y
      have q6 : w3.cell? ⟨b6, 0, none⟩ = some (.int .i64 (iy : Int)) := a6
      have q0 : w3.cell? ⟨b5, 0, none⟩ = some (.int .u64 y.gen) := a0
      have hiy : ¬ (iy : Int) < 0 := by omega
      clear a6 a0
      by_cases hlt : y.gen < g.gen
      · have HU := hide (show Best.upd (some (y, iy)) (some g) i = some (g, i) by simp [Best.upd, hlt])
        go_wp2_with fail
        go_ret
        exact ⟨rfl, by rw [HU.out]; exact HP.out, HKp.out⟩
      · have HU := hide (show Best.upd (some (y, iy)) (some g) i = some (y, iy) by simp [Best.upd, hlt])
        go_wp2_with fail
        go_ret
        exact ⟨rfl, by rw [HU.out]; exact HS3.out, Kp.of_below HB3.out⟩
end Go.Proofs.YtnnfiicmplkakaaGreatDoor
namespace Go.Proofs.YtnnfiicmplkakaaGreatDoor
open Go.RowKit Go.Shelf

def bestTo (xs : Nat → Option Hd) : Nat → Best
  | 0 => none
  | k + 1 => (bestTo xs k).upd (xs k) k
/-- behind counts -/
def CountsRes (o : Best) (W : World) (e : Ending) (W' : World) : Prop := e = .returned (.tuple #[o.hd.val, .int .i64 o.at, .int .i64 0]) ∧ Below W.heap.size W W'
theorem bestTo_good {xs : Nat → Option Hd} {k : Nat} (h : ∀ i, i < k → ∀ x, xs i = some x → x.good) : ∀ y, bestTo xs k = some y → y.1.good := by
  induction k with
  | zero => intro y hy; cases hy
  | succ k ih =>
    intro y hy
    have h1 := ih fun i hi => h i (by omega)
    have h2 := h k (by omega)
    simp only [bestTo, Best.upd] at hy
    cases hx : xs k with
    | none => rw [hx] at hy; exact h1 y hy
    | some x =>
      rw [hx] at hy
      simp only at hy
      cases ho : bestTo xs k with
      | none => rw [ho] at hy; cases hy; exact h2 x hx
      | some z =>
        rw [ho] at hy
        simp only at hy
        split at hy
        · cases hy; exact h2 x hx
        · cases hy; exact h1 _ ho
/-- counts' boxes -/
structure Cst (W wr : World) (bd : Nat) (o : Best) : Prop where
  bel : Below W.heap.size W wr
  b1 : Whole wr W.heap.size 37 [.pointer (some ⟨bd, 0, none⟩)]
  b2 : Whole wr (W.heap.size + 1) 84 hd0.cells
  bs : Bst wr (W.heap.size + 1 + 1) (W.heap.size + 1 + 1 + 1) o
theorem Cst.next {W wr wr' : World} {bd : Nat} {o o' : Best} (h : Cst W wr bd o) (hb : Bst wr' (W.heap.size + 1 + 1) (W.heap.size + 1 + 1 + 1) o') (hk : Kp (TwoF (W.heap.size + 1 + 1) (W.heap.size + 1 + 1 + 1)) wr wr') : Cst W wr' bd o' :=
  ⟨h.bel.trans (hk.below h.bel.size fun i hi => by unfold TwoF at hi; omega), h.b1.kp hk (fun e => by unfold TwoF at e; omega), h.b2.kp hk (fun e => by unfold TwoF at e; omega), hb⟩
theorem Cst.start (W : World) (bd : Nat) : Cst W ((((W.alloc (.cells #[.pointer (some ⟨bd, 0, none⟩)] 37)).alloc (.cells #[.int .u64 0, .int .u64 0, .int .i64 0, .string ⟨#[]⟩] 84)).alloc (.cells #[.int .u64 0, .int .u64 0, .int .i64 0, .string ⟨#[]⟩] 84)).alloc (.cells #[.int .i64 (-1)] 3)) bd none := by
  have a1 := Whole.new W [.pointer (some ⟨bd, 0, none⟩)] 37
  have k1 : Below W.heap.size W (W.alloc (.cells #[.pointer (some ⟨bd, 0, none⟩)] 37)) := (Below.refl _ _).alloc (Nat.le_refl _) _
  have z1 : (W.alloc (.cells #[.pointer (some ⟨bd, 0, none⟩)] 37)).heap.size = W.heap.size + 1 := by simp
  change Whole (W.alloc (.cells #[.pointer (some ⟨bd, 0, none⟩)] 37)) _ _ _ at a1
  generalize W.alloc (.cells #[.pointer (some ⟨bd, 0, none⟩)] 37) = w1 at *
  have a2 := Whole.new w1 [.int .u64 0, .int .u64 0, .int .i64 0, .string ⟨#[]⟩] 84
  have k2 : Below w1.heap.size w1 (w1.alloc (.cells #[.int .u64 0, .int .u64 0, .int .i64 0, .string ⟨#[]⟩] 84)) := (Below.refl _ _).alloc (Nat.le_refl _) _
  have z2 : (w1.alloc (.cells #[.int .u64 0, .int .u64 0, .int .i64 0, .string ⟨#[]⟩] 84)).heap.size = w1.heap.size + 1 := by simp
  change Whole (w1.alloc (.cells #[.int .u64 0, .int .u64 0, .int .i64 0, .string ⟨#[]⟩] 84)) _ _ _ at a2
  generalize w1.alloc (.cells #[.int .u64 0, .int .u64 0, .int .i64 0, .string ⟨#[]⟩] 84) = w2 at *
  have a3 := Whole.new w2 [.int .u64 0, .int .u64 0, .int .i64 0, .string ⟨#[]⟩] 84
  have k3 : Below w2.heap.size w2 (w2.alloc (.cells #[.int .u64 0, .int .u64 0, .int .i64 0, .string ⟨#[]⟩] 84)) := (Below.refl _ _).alloc (Nat.le_refl _) _
  have z3 : (w2.alloc (.cells #[.int .u64 0, .int .u64 0, .int .i64 0, .string ⟨#[]⟩] 84)).heap.size = w2.heap.size + 1 := by simp
  change Whole (w2.alloc (.cells #[.int .u64 0, .int .u64 0, .int .i64 0, .string ⟨#[]⟩] 84)) _ _ _ at a3
  generalize w2.alloc (.cells #[.int .u64 0, .int .u64 0, .int .i64 0, .string ⟨#[]⟩] 84) = w3 at *
  have a4 := Whole.new w3 [.int .i64 (-1)] 3
  have k4 : Below w3.heap.size w3 (w3.alloc (.cells #[.int .i64 (-1)] 3)) := (Below.refl _ _).alloc (Nat.le_refl _) _
  change Whole (w3.alloc (.cells #[.int .i64 (-1)] 3)) _ _ _ at a4
  generalize w3.alloc (.cells #[.int .i64 (-1)] 3) = w4 at *
  rw [z1] at a2 z2
  rw [z2] at a3 z3
  rw [z3] at a4
  exact ⟨((k1.trans (k2.mono (by omega))).trans (k3.mono (by omega))).trans (k4.mono (by omega)), ((a1.below k2 (by omega)).below k3 (by omega)).below k4 (by omega), (a2.below k3 (by omega)).below k4 (by omega), ⟨a3.below k4 (by omega), a4, by omega⟩⟩
set_option maxHeartbeats 2000000 in
set_option maxRecDepth 20000 in
theorem counts_any (bd bon n : Nat) (wv : Value) (on : Nat → List Int) (wt : List (List Int × Nat)) (acts : Int) (xs : Nat → Option Hd) (W : World) (h : Dk W bd bon n wv on wt acts) (hn : 2 ≤ n) (hl : wt.length ≤ 100000)
    (hx : ∀ i, i < 2 → HdIs (rd on wt i) (xs i)) (ht : Tab W) :
    Calls Tryz.prog 28 #[.pointer (some ⟨bd, 0, none⟩)] W (CountsRes (bestTo xs 2) W) := by
  have HD := hide h
  have HX := hide hx
  have HT := hide ht
  have ef : ∀ args w, (callFunc 54 args).run Tryz.prog w = .ok (.enter 54 args) w := enters_of Tryz.func54 (by kernel_rfl) rfl
  clear h hx ht
  go_enter Tryz.func28, Tryz.ntmps28
  have HC0 := hide (Cst.start W bd)
  go_upto_region 4 with fail
  go_loopw [8, 9, 12] (fun _ _ x wr => ∃ k : Nat, k ≤ 2 ∧ x = .int .i64 k ∧ Cst W wr bd (bestTo xs k)) (fun _ _ x _ => 2 - (intOf x).toNat)
  case atStart => exact ⟨0, by omega, rfl, HC0.out⟩
  case round =>
    obtain ⟨k, hk, rfl, hc⟩ := hrel
    have HC := hide hc
    clear hc
    by_cases hlt : k < 2
    · have HLk := hide (look_any bd bon n wv on wt acts W.heap.size (W.heap.size + 1 + 1) (W.heap.size + 1 + 1 + 1) k (bestTo xs k) (xs k) wr (HD.out.below HC.out.bel) (by omega) hl HC.out.bs (HC.out.b1.cell 0) (HX.out k hlt) (HT.out.below HC.out.bel) (bestTo_good fun i hi x hx => by
        have := (HX.out i (by omega)).2
        rw [hx] at this
        exact this.1))
      go_wp2_with fail
      refine HLk.out.mono ?_
      rintro e w1 ⟨rfl, hb, hkp⟩
      have HC1 := hide (HC.out.next hb hkp)
      clear hb hkp
      go_wp2_with fail
      go_roundw
      case rel => exact ⟨k + 1, by omega, by go_num, HC1.out⟩
      case measure => simp [intOf]; omega
    · obtain rfl : k = 2 := by omega
      generalize ho : bestTo xs 2 = o at *
      have HO := hide ho
      clear ho
      go_upto_region 10 with fail
      have a0 : wr.cell? ⟨W.heap.size + 1 + 1, 0, none⟩ = some (.int .u64 o.hd.gen) := HC.out.bs.box5.cell 0
      have a1 : wr.cell? ⟨W.heap.size + 1 + 1, 1, none⟩ = some (.int .u64 o.hd.first) := HC.out.bs.box5.cell 1
      have a2 : wr.cell? ⟨W.heap.size + 1 + 1, 2, none⟩ = some (.int .i64 o.hd.sec) := HC.out.bs.box5.cell 2
      have a3 : wr.cell? ⟨W.heap.size + 1 + 1, 3, none⟩ = some (.string o.hd.note) := HC.out.bs.box5.cell 3
      have a6 : wr.cell? ⟨W.heap.size + 1 + 1 + 1, 0, none⟩ = some (.int .i64 o.at) := HC.out.bs.box6.cell 0
      have l5 := HC.out.bs.box5.lt
      have l6 := HC.out.bs.box6.lt
      have n5 : ¬ W.heap.size + 1 + 1 = W.heap.size + 1 := by omega
      have n6 : ¬ W.heap.size + 1 + 1 + 1 = W.heap.size + 1 := by omega
      refine wp_region_held_drew (S := (fun w' => Kp (OnlyF (W.heap.size + 1)) wr w')) (by kernel_rfl) ((Kp.refl _ _).drew) (fun hHeld => ?_)
      have HCd := hide (show Cst W wr.drew bd o from ⟨HC.out.bel.drew, HC.out.b1, HC.out.b2, ⟨HC.out.bs.box5, HC.out.bs.box6, HC.out.bs.ne⟩⟩)
      generalize wr.drew = wd at *
      refine wpAnyH_take (i := 0) (v := ?vq1) rfl (by kernel_rfl) (by kernel_rfl) (by kernel_rfl) (fun _ _ _ h => h) (Or.inl ⟨by rfl, ?hq1⟩) (by assumption) ?rq1
      case hq1 => (intro wq hSw; have e0 := (hSw.cell (p := ⟨W.heap.size + 1 + 1, 0, none⟩) l5 n5).trans a0; have e1 := (hSw.cell (p := ⟨W.heap.size + 1 + 1, 1, none⟩) l5 n5).trans a1; have e2 := (hSw.cell (p := ⟨W.heap.size + 1 + 1, 2, none⟩) l5 n5).trans a2; have e3 := (hSw.cell (p := ⟨W.heap.size + 1 + 1, 3, none⟩) l5 n5).trans a3; go_simp; (try with_reducible rfl))
      try simp only [Act.put, List.getElem_toArray, List.getElem_cons_zero, List.setIfInBounds_toArray, List.set_cons_zero, List.set_cons_succ]
      refine wpAnyH_take (i := 1) (v := ?vq2) rfl (by kernel_rfl) (by kernel_rfl) (by kernel_rfl) (fun _ _ _ h => h) (Or.inl ⟨by rfl, ?hq2⟩) (by assumption) ?rq2
      case hq2 => (intro wq hSw; have e6 := (hSw.cell (p := ⟨W.heap.size + 1 + 1 + 1, 0, none⟩) l6 n6).trans a6; go_simp; (try with_reducible rfl))
      try simp only [Act.put, List.getElem_toArray, List.getElem_cons_zero, List.getElem_cons_succ, List.setIfInBounds_toArray, List.set_cons_zero, List.set_cons_succ]
      refine wpAnyH_ready (rs := [2]) (by kernel_rfl) (by simp) ?_
      refine AllReadyH.cons (o := _) rfl (fun K hK => ?_) ?_
      · skip
        have y0 : wd.cell? ⟨W.heap.size + 1, 0, none⟩ = some (.int .u64 0) := HCd.out.b2.cell 0
        have x0 := HCd.out.b2.frozen 0
        have y1 : wd.cell? ⟨W.heap.size + 1, 1, none⟩ = some (.int .u64 0) := HCd.out.b2.cell 1
        have x1 := HCd.out.b2.frozen 1
        have y2 : wd.cell? ⟨W.heap.size + 1, 2, none⟩ = some (.int .i64 0) := HCd.out.b2.cell 2
        have x2 := HCd.out.b2.frozen 2
        have y3 : wd.cell? ⟨W.heap.size + 1, 3, none⟩ = some (.string ⟨#[]⟩) := HCd.out.b2.cell 3
        have x3 := HCd.out.b2.frozen 3
        go_simp
        have h1 := ((((HCd.out.b2).set_ 0 (.int .u64 o.hd.gen)).set_ 1 (.int .u64 o.hd.first)).set_ 2 (.int .i64 (o.hd.sec : Int))).set_ 3 (.string o.hd.note)
        have HKf := hide (((((hHeld).setCell (p := ⟨W.heap.size + 1, 0, none⟩) (.inl rfl) (.int .u64 o.hd.gen)).setCell (p := ⟨W.heap.size + 1, 1, none⟩) (.inl rfl) (.int .u64 o.hd.first)).setCell (p := ⟨W.heap.size + 1, 2, none⟩) (.inl rfl) (.int .i64 (o.hd.sec : Int))).setCell (p := ⟨W.heap.size + 1, 3, none⟩) (.inl rfl) (.string o.hd.note))
        have HBf := hide (((((HCd.out.bel).setCell (p := ⟨W.heap.size + 1, 0, none⟩) (Nat.le_succ _) (.int .u64 o.hd.gen)).setCell (p := ⟨W.heap.size + 1, 1, none⟩) (Nat.le_succ _) (.int .u64 o.hd.first)).setCell (p := ⟨W.heap.size + 1, 2, none⟩) (Nat.le_succ _) (.int .i64 (o.hd.sec : Int))).setCell (p := ⟨W.heap.size + 1, 3, none⟩) (Nat.le_succ _) (.string o.hd.note))
        generalize ((((wd).setCell ⟨W.heap.size + 1, 0, none⟩ (.int .u64 o.hd.gen)).setCell ⟨W.heap.size + 1, 1, none⟩ (.int .u64 o.hd.first)).setCell ⟨W.heap.size + 1, 2, none⟩ (.int .i64 (o.hd.sec : Int))).setCell ⟨W.heap.size + 1, 3, none⟩ (.string o.hd.note) = wf at *
        refine hK.out _ _ (HKf.out) (fun hHeld => ?_)
        clear hK K y0 x0 y1 x1 y2 x2 y3 x3
        try simp only [Act.put, List.getElem_toArray, List.getElem_cons_zero, List.getElem_cons_succ, List.setIfInBounds_toArray, List.set_cons_zero, List.set_cons_succ]
        refine wpAnyH_take (i := 3) (v := ?vq3) rfl (by kernel_rfl) (by kernel_rfl) (by kernel_rfl) (fun _ _ _ h => h) (Or.inl ⟨by rfl, ?hq3⟩) (by assumption) ?rq3
        case hq3 => (intro wq hSw; go_simp; (try with_reducible rfl))
        try simp only [Act.put, List.getElem_toArray, List.getElem_cons_zero, List.getElem_cons_succ, List.setIfInBounds_toArray, List.set_cons_zero, List.set_cons_succ]
        refine wpAnyH_take (i := 4) (v := ?vq4) rfl (by kernel_rfl) (by kernel_rfl) (by kernel_rfl) (fun _ _ _ h => h) (Or.inl ⟨by rfl, ?hq4⟩) (by assumption) ?rq4
        case hq4 => (intro wq hSw; go_simp; (try with_reducible rfl))
        try simp only [Act.put, List.getElem_toArray, List.getElem_cons_zero, List.getElem_cons_succ, List.setIfInBounds_toArray, List.set_cons_zero, List.set_cons_succ]
        refine wpAnyH_done (by kernel_rfl) ?_ _
        clear a0 a1 a2 a3 a6
        have k0 : wf.cell? ⟨W.heap.size + 1, 0, none⟩ = some (.int .u64 o.hd.gen) := h1.cell 0
        have k1 : wf.cell? ⟨W.heap.size + 1, 1, none⟩ = some (.int .u64 o.hd.first) := h1.cell 1
        have k2 : wf.cell? ⟨W.heap.size + 1, 2, none⟩ = some (.int .i64 (o.hd.sec : Int)) := h1.cell 2
        have k3 : wf.cell? ⟨W.heap.size + 1, 3, none⟩ = some (.string o.hd.note) := h1.cell 3
        go_wp2_with fail
        exact bodyPost_ret (v := .tuple #[.agg #[.int .u64 o.hd.gen, .int .u64 o.hd.first, .int .i64 (o.hd.sec : Int), .string o.hd.note], .int .i64 o.at, .int .i64 0]) (by simp [results, Tryz.results28, go_sem, k0, k1, k2, k3]) rfl ⟨rfl, HBf.out⟩
      exact AllReadyH.nil
end Go.Proofs.YtnnfiicmplkakaaGreatDoor
namespace Go.Proofs.YtnnfiicmplkakaaGreatDoor
open Go.RowKit Go.Shelf

/-- a disk with power: what it owns, what its sectors read as, how many writes wait at most -/
def Ds (W : World) (bd n : Nat) (F : Nat → Prop) (c : Nat → List Int) (m : Nat) : Prop :=
  ∃ bon wv on wt acts, Dk W bd bon n wv on wt acts ∧ rd on wt = c ∧ wt.length ≤ m ∧ F = dkF bd bon wv
def upd (c : Nat → List Int) (i : Nat) (xs : List Int) : Nat → List Int := fun j => if j = i then xs else c j
/-- behind something that the disk does -/
def DsRes (bd n : Nat) (F : Nat → Prop) (c : Nat → List Int) (m : Nat) (W : World) (e : Ending) (W' : World) : Prop :=
  e = .returned (.int .i64 0) ∧ ∃ F', Ds W' bd n F' c m ∧ Kp F W W' ∧ ∀ k, F' k → F k ∨ W.heap.size ≤ k
section
variable {W W' : World} {bd n : Nat} {F : Nat → Prop} {c : Nat → List Int} {m : Nat}
theorem Ds.kp {G : Nat → Prop} (h : Ds W bd n F c m) (hk : Kp G W W') (hn : ∀ k, F k → G k → False) : Ds W' bd n F c m := by
  obtain ⟨bon, wv, on, wt, acts, h1, h2, h3, rfl⟩ := h
  exact ⟨bon, wv, on, wt, acts, h1.kp hk hn, h2, h3, rfl⟩
theorem Ds.below (h : Ds W bd n F c m) (hb : Below W.heap.size W W') : Ds W' bd n F c m := h.kp (G := NoF) (Kp.of_below hb) fun _ _ h => h.elim
theorem Ds.lt (h : Ds W bd n F c m) {k : Nat} (hk : F k) : k < W.heap.size := by
  obtain ⟨bon, wv, on, wt, acts, h1, h2, h3, rfl⟩ := h
  exact h1.lt hk
theorem Ds.self (h : Ds W bd n F c m) : F bd := by
  obtain ⟨bon, wv, on, wt, acts, h1, h2, h3, rfl⟩ := h
  exact .inl rfl
theorem Ds.mono {m' : Nat} (h : Ds W bd n F c m) (hm : m ≤ m') : Ds W bd n F c m' := by
  obtain ⟨bon, wv, on, wt, acts, h1, h2, h3, h4⟩ := h
  exact ⟨bon, wv, on, wt, acts, h1, h2, Nat.le_trans h3 hm, h4⟩
theorem Ds.len (h : Ds W bd n F c m) : ∃ A k, W.cell? ⟨bd, 2, none⟩ = some (.slice A n k) := by
  obtain ⟨bon, wv, on, wt, acts, h1, h2, h3, rfl⟩ := h
  exact ⟨_, _, h1.box.cell 2⟩
theorem Ds.read (h : Ds W bd n F c m) (hm : m ≤ 100000) {i : Nat} (hi : i < n) : Calls Tryz.prog 55 #[.pointer (some ⟨bd, 0, none⟩), .int .i64 i] W (ReadRes (c i) W) := by
  obtain ⟨bon, wv, on, wt, acts, h1, rfl, h3, rfl⟩ := h
  exact read_any bd bon n wv on wt acts i W h1 hi (by omega)
theorem Ds.write (h : Ds W bd n F c m) (hm : m ≤ 100000) {i : Nat} (hi : i < n) (A : Option Addr) (k : Nat) (xs : List Int) (hA : Mem W W.heap.size A (bv xs)) (hx : xs.length = 512) (hy : Byt xs) (hsep : ∀ b off, A = some ⟨b, off, none⟩ → ¬ F b) :
    Calls Tryz.prog 98 #[.pointer (some ⟨bd, 0, none⟩), .int .i64 i, .slice A 512 k] W (DsRes bd n F (upd c i xs) (m + 1) W) := by
  obtain ⟨bon, wv, on, wt, acts, h1, rfl, h3, rfl⟩ := h
  refine (write_any bd bon n wv on wt acts i A k xs W h1 hi (by omega) hA hx hy hsep).mono fun e W' hh => ?_
  obtain ⟨rfl, wv', acts', g1, g2, g3⟩ := hh
  refine ⟨rfl, dkF bd bon wv', ⟨bon, wv', on, _, acts', g1, ?_, by rw [List.length_append, List.length_singleton]; omega, rfl⟩, g2, g3⟩
  funext j
  rw [rd_snoc]
  rfl
theorem Ds.flush (h : Ds W bd n F c m) (hm : m ≤ 100000) : Calls Tryz.prog 99 #[.pointer (some ⟨bd, 0, none⟩)] W (DsRes bd n F c 0 W) := by
  obtain ⟨bon, wv, on, wt, acts, h1, rfl, h3, rfl⟩ := h
  refine (flush_any bd bon n wv on wt acts W h1 (by omega)).mono fun e W' hh => ?_
  obtain ⟨rfl, ⟨acts', g1⟩, g2⟩ := hh
  exact ⟨rfl, dkF bd bon (.slice none 0 0), ⟨bon, _, _, [], acts', g1, rfl, Nat.le_refl _, rfl⟩, g2, fun k hk => hk.elim (fun e => .inl (.inl e)) (fun e => e.elim (fun e => .inl (.inr (.inl e))) (fun e => by cases e))⟩
theorem Ds.counts (h : Ds W bd n F c m) (hm : m ≤ 100000) (hn : 2 ≤ n) (xs : Nat → Option Hd) (hx : ∀ i, i < 2 → HdIs (c i) (xs i)) (ht : Tab W) : Calls Tryz.prog 28 #[.pointer (some ⟨bd, 0, none⟩)] W (CountsRes (bestTo xs 2) W) := by
  obtain ⟨bon, wv, on, wt, acts, h1, rfl, h3, rfl⟩ := h
  exact counts_any bd bon n wv on wt acts xs W h1 hn (by omega) hx ht
end
/-- one step behind another -/
theorem DsRes.then_ {bd n : Nat} {F F1 : Nat → Prop} {c : Nat → List Int} {m : Nat} {W W1 W' : World} {e : Ending} (h1 : Kp F W W1) (h2 : ∀ k, F1 k → F k ∨ W.heap.size ≤ k) (h : DsRes bd n F1 c m W1 e W') : DsRes bd n F c m W e W' := by
  obtain ⟨he, F', g1, g2, g3⟩ := h
  exact ⟨he, F', g1, h1.trans g2 h2, fun k hk => (g3 k hk).elim (h2 k) (fun h => .inr (Nat.le_trans h1.size h))⟩
set_option maxHeartbeats 400000 in
theorem place_any (seq : Int) (sec : Nat) (w : World) (h0 : 0 ≤ seq) (h1 : seq < 18446744073709551616) (hs : 1 ≤ sec) (hs2 : sec < 65536) : Calls Tryz.prog 58 #[.int .u64 seq, .int .i64 sec] w fun e w' => e = .returned (.int .i64 (2 + seq % sec)) ∧ w = w' := by
  have hw : IntKind.u64.wrap (sec : Int) = sec := by rw [IntKind.wrap_u64]; omega
  have hm0 : 0 ≤ seq % (sec : Int) := Int.emod_nonneg _ (by omega)
  have hm1 : seq % (sec : Int) < 65536 := by have := Int.emod_lt_of_pos seq (show (0 : Int) < sec by omega); omega
  have hw2 : IntKind.i64.wrap (seq % (sec : Int)) = seq % sec := IntWalk.i64_in _ (by omega)
  have htm : seq.tmod (sec : Int) = seq % sec := Int.tmod_eq_emod_of_nonneg h0
  have HH := hide h1
  have hne : ((sec : Int) == 0) = false := by rw [beq_eq_false_iff_ne]; omega
  clear h1
  go_enter Tryz.func58, Tryz.ntmps58
  go_wp2
  go_ret
  exact ⟨rfl, rfl⟩
theorem other_any (x : Int) (w : World) (h0 : -1 ≤ x) (h1 : x ≤ 1) : Calls Tryz.prog 158 #[.int .i64 x] w fun e w' => e = .returned (.int .i64 (if x = 1 then 0 else 1)) ∧ w = w' := by
  have h : x = -1 ∨ x = 0 ∨ x = 1 := by omega
  rcases h with rfl | rfl | rfl
  · go_enter Tryz.func158, Tryz.ntmps158
    go_wp2
    go_ret
    exact ⟨rfl, rfl⟩
  · go_enter Tryz.func158, Tryz.ntmps158
    go_wp2
    go_ret
    exact ⟨rfl, rfl⟩
  · go_enter Tryz.func158, Tryz.ntmps158
    go_wp2
    go_ret
    exact ⟨rfl, rfl⟩
set_option maxHeartbeats 1000000 in
theorem walwrite_any (bd n : Nat) (F : Nat → Prop) (c : Nat → List Int) (m i : Nat) (h : Hd) (W : World) (hd : Ds W bd n F c m) (hm : m + 1 ≤ 100000) (hi : i < n) (hg : h.good) (ht : Tab W) :
    Calls Tryz.prog 157 #[.pointer (some ⟨bd, 0, none⟩), .int .i64 i, h.val] W (DsRes bd n F (upd c i h.bytes) 0 W) := by
  unfold Hd.val
  have hb0 : Below W.heap.size W (W.alloc (.cells #[.int .u64 h.gen, .int .u64 h.first, .int .i64 (h.sec : Int), .string h.note] 84)) := (Below.refl _ _).alloc (Nat.le_refl _) _
  have HD := hide hd
  have HB0 := hide hb0
  have HPut := hide (headput_any h.gen h.first h.sec h.note _ hg.1.1 hg.1.2 hg.2.1.1 hg.2.1.2 hg.2.2.1 (by have := hg.2.2.2; omega) (ht.below hb0))
  have HLen := hide (headB_len h.gen h.first h.sec h.note (by have := hg.2.2.2; omega))
  have HByt := hide (headB_byt h.gen h.first h.sec h.note (by have := hg.2.2.2; omega))
  clear hd ht hg hb0
  go_enter Tryz.func157, Tryz.ntmps157
  go_wp2_with fail
  generalize W.alloc (.cells #[.int .u64 h.gen, .int .u64 h.first, .int .i64 (h.sec : Int), .string h.note] 84) = w1 at *
  refine HPut.out.mono ?_
  rintro e w2 ⟨A, k, rfl, ho, hb⟩
  have HB2 := hide (HB0.out.trans (hb.mono HB0.out.size))
  have HO := hide ho
  have hs1 := HB0.out.size
  clear hb ho
  go_wp2_with fail
  have HD2 := hide (HD.out.below HB2.out)
  refine (HD2.out.write (by omega) hi A k _ (owns_mem HO.out) HLen.out HByt.out (fun b off e => fun hf => by
    subst e
    rcases HO.out.2 with ⟨e1, _⟩ | ⟨g, cap, cur, e1, hge, _⟩
    · cases e1
    · cases e1
      have := HD.out.lt hf
      omega)).mono ?_
  rintro e w3 ⟨rfl, F', h1, h2, h3⟩
  have HD3 := hide h1
  have HK3 := hide ((Kp.of_below HB2.out).same h2)
  have HF3 := hide (show ∀ k, F' k → F k ∨ W.heap.size ≤ k from fun k hk => (h3 k hk).imp id (fun h => Nat.le_trans HB2.out.size h))
  clear h1 h2 h3
  go_wp2_with fail
  refine (HD3.out.flush (by omega)).mono ?_
  rintro e w4 hr
  have HR := hide (DsRes.then_ HK3.out HF3.out hr)
  obtain ⟨rfl, _⟩ := hr
  go_wp2_with fail
  go_ret
  exact HR.out
end Go.Proofs.YtnnfiicmplkakaaGreatDoor
namespace Go.Proofs.YtnnfiicmplkakaaGreatDoor
open Go.RowKit Go.Shelf

structure Sh where
  seq : Int
  last : Bool
  text : ByteArray
def Sh.good (s : Sh) : Prop := (0 ≤ s.seq ∧ s.seq < 18446744073709551616) ∧ s.text.size ≤ 497
def Sh.bytes (s : Sh) : List Int := sheetB s.seq s.last s.text
def Sh.val (s : Sh) : Value := .agg #[.int .u64 s.seq, .bool s.last, .string s.text]
/-- what a sector says: a sheet, or none -/
def ShIs (b : List Int) (o : Option Sh) : Prop := (b.length = 512 ∧ Byt b) ∧ match o with
  | some s => s.good ∧ b = s.bytes
  | none => ∀ s : Sh, s.good → b ≠ s.bytes
theorem be1_kind (last : Bool) : Pl.be 1 (kindOf last) = [kindOf last] := by cases last <;> decide
theorem kind_is (last : Bool) : (kindOf last == 2) = last := by cases last <;> decide
theorem sh_parts (s : Sh) : s.bytes = Pl.be 8 s.seq ++ (kindOf s.last :: (Pl.be 2 s.text.size ++ (bs s.text ++ List.replicate (497 - s.text.size) 0 ++ Pl.be 4 (rev32 (crc (sheetA s.seq s.last s.text)))))) := by
  simp [Sh.bytes, sheetB, sheetA, be1_kind, List.append_assoc]
def shV : Option Sh → Value
  | some s => .tuple #[s.val, .int .i64 0]
  | none => badSheet
theorem take_sh (b : List Int) (o : Option Sh) (A : Option Addr) (c : Nat) (W : World) (hb : ShIs b o) (hm : Mem W W.heap.size A (bv b)) (ht : Tab W) :
    Calls Tryz.prog 57 #[.slice A 512 c] W fun e W' => e = .returned (shV o) ∧ Below W.heap.size W W' := by
  obtain ⟨⟨hl, hby⟩, ho⟩ := hb
  obtain ⟨p, k, l, rest, rfl, hp, hl2, hrest⟩ := split_sheet hl
  have hG := Pl.un_bound p fun x hx => hby.left x hx
  have hR := Pl.un_bound l fun x hx => hby.right (x := x) (List.mem_cons_of_mem _ (List.mem_append_left _ hx))
  rw [hp] at hG
  rw [hl2] at hR
  have e8 : (256 : Int) ^ 8 = 18446744073709551616 := by decide
  have e2 : (256 : Int) ^ 2 = 65536 := by decide
  rw [e8] at hG
  rw [e2] at hR
  have hln : Pl.un l = ((Pl.un l).toNat : Int) := by omega
  have hpart : ∀ s : Sh, s.good → p ++ (k :: (l ++ rest)) = s.bytes → p = Pl.be 8 s.seq ∧ k = kindOf s.last ∧ (Pl.un l).toNat = s.text.size ∧ rest.take s.text.size = bs s.text := by
    intro s hg he
    rw [sh_parts] at he
    have h1 := List.append_inj he (by rw [hp, Pl.be_len])
    obtain ⟨h2, h3⟩ := List.cons.inj h1.2
    have h4 := List.append_inj h3 (by rw [hl2, Pl.be_len])
    have h5 := hg.2
    refine ⟨h1.1, h2, ?_, ?_⟩
    · rw [h4.1, un_be 2 _ (by omega) (by rw [e2]; omega), Int.toNat_natCast]
    · rw [h4.2, List.append_assoc, List.take_append_of_le_length (by rw [bs_len]; exact Nat.le_refl _), List.take_of_length_le (by rw [bs_len]; exact Nat.le_refl _)]
  by_cases h1 : (Pl.un l).toNat ≤ 497
  · refine (sheettake_ok p l rest k _ A c W hp hl2 hrest hln h1 hby hm ht).mono fun e W' hh => ⟨?_, hh.2⟩
    rw [hh.1]
    congr 1
    have hgood : (⟨Pl.un p, k == 2, strOfNums (rest.take (Pl.un l).toNat)⟩ : Sh).good := ⟨hG, by show (strOfNums (rest.take (Pl.un l).toNat)).size ≤ 497; rw [strOfNums_size, List.length_take]; omega⟩
    unfold sheetV
    cases o with
    | none =>
      rw [if_neg (fun e => ho _ hgood e.symm)]
      rfl
    | some s =>
      obtain ⟨hg, he⟩ := ho
      obtain ⟨g1, g2, g3, g4⟩ := hpart s hg he
      rw [g3, g4, g2, g1, un_be 8 _ hg.1.1 (by rw [e8]; exact hg.1.2), kind_is, nums_bs, if_pos]
      · rfl
      · rw [g1, g2] at he
        exact he.symm
  · have hno : o = none := by
      cases o with
      | none => rfl
      | some s =>
        exfalso
        obtain ⟨_, _, g3, _⟩ := hpart s ho.1 ho.2
        have := ho.1.2
        omega
    subst hno
    by_cases h2 : (Pl.un l).toNat ≤ 501
    · exact sheettake_mid p l rest k _ A c W hp hl2 hrest hln (by omega) h2 hby hm ht
    · exact sheettake_far p l rest k _ A c W hp hl2 hrest hln (by omega) hby hm ht
/-! ### sectors of zeros are neither -/
theorem un_zeros (n : Nat) : Pl.un (List.replicate n 0) = 0 := by
  unfold Pl.un
  induction n with
  | zero => rfl
  | succ n ih => rw [List.replicate_succ, List.foldl_cons]; exact ih
theorem sh_zeros : ShIs (zeros 512) none := by
  refine ⟨⟨List.length_replicate, zeros_byt 512⟩, fun s hg he => ?_⟩
  rw [sh_parts] at he
  have h1 : (zeros 512)[8]? = some 0 := by
    unfold zeros
    rw [List.getElem?_replicate]
    rfl
  rw [he, List.getElem?_append_right (by rw [Pl.be_len]; exact Nat.le_refl _), Pl.be_len] at h1
  have h2 : kindOf s.last = 0 := by simpa using h1
  cases hs : s.last <;> rw [hs] at h2 <;> exact absurd h2 (by decide)
set_option maxRecDepth 100000 in
theorem crc_zeros : crc (List.replicate 508 0) ≠ 0 := by
  decide +kernel
theorem hd_zeros : HdIs (zeros 512) none := by
  refine ⟨⟨List.length_replicate, zeros_byt 512⟩, fun h hg he => ?_⟩
  have hs := hg.2.2.2
  have e : zeros 512 = List.replicate 508 0 ++ List.replicate 4 0 := by unfold zeros; rw [List.replicate_append_replicate]
  rw [e] at he
  have h1 := List.append_inj he (by rw [List.length_replicate, headA_len _ _ _ _ (by omega)])
  have h2 := h1.2
  rw [← h1.1] at h2
  have h3 := congrArg Pl.un h2
  have hb := crc_bound (List.replicate 508 0)
  have e4 : (256 : Int) ^ 4 = 4294967296 := by decide
  rw [un_zeros, un_be 4 _ hb.1 (by rw [e4]; omega)] at h3
  exact crc_zeros h3.symm
end Go.Proofs.YtnnfiicmplkakaaGreatDoor
namespace Go.Proofs.YtnnfiicmplkakaaGreatDoor
open Go.RowKit Go.Shelf

/-- how a sheet reads as a map's element -/
def shR : Value → Option (DataW Unit × List MemPlace)
  | .agg cs => match cs.toList with
    | [.int .u64 a, .bool b, .string s] => some (.agg [.lit (.int .u64 a), .lit (.bool b), .lit (.string s.data.toList)], [])
    | _ => none
  | _ => none
def Sh.data (s : Sh) : DataW Unit := .agg [.lit (.int .u64 s.seq), .lit (.bool s.last), .lit (.string s.text.data.toList)]
theorem shR_val (s : Sh) : shR s.val = some (s.data, []) := rfl
def shStep (D : DataW Unit) (o : Option Sh) (sec i : Nat) : DataW Unit := match o with
  | none => D
  | some s => if s.seq % sec = i then D.put (.int .u64 s.seq) s.data else D
def shTo (xs : Nat → Option Sh) (sec : Nat) : Nat → DataW Unit
  | 0 => .map []
  | k + 1 => shStep (shTo xs sec k) (xs k) sec k
/-- the sheets of a log, as a map of the function's own -/
def ShMap (W : World) (bm : Nat) (D : DataW Unit) : Prop := ∃ n, n ≤ 100000 ∧ W.ownsMap Tryz.prog 66 shR bm n D
def ReadAllRes (D : DataW Unit) (W : World) (e : Ending) (W' : World) : Prop := ∃ bm, e = .returned (.tuple #[.map (some bm), .int .i64 0]) ∧ ShMap W' bm D ∧ W.heap.size ≤ bm ∧ Below W.heap.size W W'
structure RdSt (W wr : World) (D : DataW Unit) (k : Nat) : Prop where
  bel : Below W.heap.size W wr
  map : wr.ownsMap Tryz.prog 66 shR W.heap.size k D
theorem RdSt.below {W wr wr' : World} {D : DataW Unit} {k : Nat} (h : RdSt W wr D k) (hb : Below wr.heap.size wr wr') : RdSt W wr' D k := by
  refine ⟨h.bel.trans (hb.mono h.bel.size), ?_⟩
  obtain ⟨es, clock, h1, h2⟩ := h.map
  exact ⟨es, clock, (hb.block W.heap.size (Array.getElem?_eq_some_iff.1 h1).1).trans h1, h2⟩
theorem u64_wf {n : Int} (h0 : 0 ≤ n) (h1 : n < 18446744073709551616) : (Lit.int .u64 n).wf = true := by
  have hmin : IntKind.u64.min = 0 := rfl
  have hmax : IntKind.u64.max = 18446744073709551615 := rfl
  show (decide (IntKind.u64.min ≤ n) && decide (n ≤ IntKind.u64.max)) = true
  rw [Bool.and_eq_true, decide_eq_true_eq, decide_eq_true_eq, hmin, hmax]
  omega
set_option maxHeartbeats 2000000 in
set_option maxRecDepth 20000 in
theorem readall_any (bd n : Nat) (F : Nat → Prop) (c : Nat → List Int) (m sec : Nat) (xs : Nat → Option Sh) (W : World) (h : Ds W bd n F c m) (hm : m ≤ 100000) (hs1 : 1 ≤ sec) (hs : sec < 60000) (hn : 2 + sec ≤ n)
    (hx : ∀ i, i < sec → ShIs (c (2 + i)) (xs i)) (ht : Tab W) :
    Calls Tryz.prog 29 #[.pointer (some ⟨bd, 0, none⟩), .int .i64 sec] W (ReadAllRes (shTo xs sec sec) W) := by
  have hmm := @run_makeMap Tryz.prog
  have HD := hide h
  have HX := hide hx
  have HT := hide ht
  clear h hx ht
  have HS0 := hide (show RdSt W (W.alloc (.map #[] 0)) (.map []) 0 from ⟨(Below.refl _ _).alloc (Nat.le_refl _) _, World.ownsMap_made _ _ _ _⟩)
  go_enter Tryz.func29, Tryz.ntmps29
  go_upto_region 3 with fail
  generalize W.alloc (.map #[] 0) = w0 at *
  go_loopw [14] (fun x wr => ∃ k : Nat, k ≤ sec ∧ x = .int .i64 k ∧ RdSt W wr (shTo xs sec k) k) (fun x _ => sec - (intOf x).toNat)
  case atStart => exact ⟨0, Nat.zero_le _, rfl, HS0.out⟩
  case round =>
    obtain ⟨k, hk, rfl, hst⟩ := hrel
    have HSt := hide hst
    clear hst
    by_cases hlt : k < sec
    · have HStep := hide (show shTo xs sec (k + 1) = shStep (shTo xs sec k) (xs k) sec k from rfl)
      have HSh := hide (HX.out k hlt)
      have HRd := fun (i : Nat) (hi : i = 2 + k) => hide ((HD.out.below HSt.out.bel).read hm (i := i) (by omega))
      generalize xs k = o at *
      generalize shTo xs sec k = D at *
      go_wp2_with fail
      have e2k : (2 : Int) + (k : Int) = ((2 + k : Nat) : Int) := by omega
      rw [e2k]
      clear e2k
      refine (HRd (2 + k) rfl).out.mono ?_
      rintro e w1 ⟨A, rfl, hm1, hb1⟩
      have HM1 := hide hm1
      have HS1 := hide (HSt.out.below hb1)
      clear hm1 hb1 HRd
      go_wp2_with fail
      refine (take_sh _ o A 512 w1 HSh.out HM1.out (HT.out.below HS1.out.bel)).mono ?_
      rintro e w2 ⟨rfl, hb2⟩
      have HS2 := hide (HS1.out.below hb2)
      clear hb2 HS1 HM1
      cases o with
      | none =>
        have HN := hide (show shTo xs sec (k + 1) = D from HStep.out)
        unfold shV badSheet
        have HS3 := hide (HS2.out.below ((Below.refl _ _).alloc (Nat.le_refl _) (.cells #[.int .u64 0, .bool false, .string ⟨#[]⟩] 125)))
        go_wp2_with fail
        go_roundw
        case rel => exact ⟨k + 1, by omega, by go_num, by rw [HN.out]; exact ⟨HS3.out.bel, HS3.out.map.mono (by omega)⟩⟩
        case measure => simp [intOf]; omega
      | some s =>
        have HGd := hide HSh.out.2.1
        unfold shV Sh.val
        have hb3 : Below w2.heap.size w2 (w2.alloc (.cells #[.int .u64 s.seq, .bool s.last, .string s.text] 125)) := (Below.refl _ _).alloc (Nat.le_refl _) _
        have hx3 := Whole.new w2 [.int .u64 s.seq, .bool s.last, .string s.text] 125
        change Whole (w2.alloc (.cells #[.int .u64 s.seq, .bool s.last, .string s.text] 125)) _ _ _ at hx3
        have HS3 := hide (HS2.out.below hb3)
        have HX3 := hide hx3
        clear hb3 hx3
        go_upto_region 9 with fail
        generalize w2.alloc (.cells #[.int .u64 s.seq, .bool s.last, .string s.text] 125) = w3 at *
        generalize w2.heap.size = b3 at *
        have q0 := HX3.out.cell 0
        have q1 := HX3.out.cell 1
        have q2 := HX3.out.cell 2
        go_wp2_with fail
        refine (place_any s.seq sec w3 HGd.out.1.1 HGd.out.1.2 hs1 (by omega)).mono ?_
        rintro e w4 ⟨rfl, rfl⟩
        by_cases hp : s.seq % (sec : Int) = k
        · have HN := hide (show shTo xs sec (k + 1) = D.put (.int .u64 s.seq) s.data by rw [HStep.out]; simp only [shStep]; rw [if_pos hp])
          have hbe : ((2 : Int) + s.seq % (sec : Int) == 2 + (k : Int)) = true := by rw [beq_iff_eq]; omega
          have HWf := hide (u64_wf HGd.out.1.1 HGd.out.1.2)
          clear hp
          go_wp2_with (at_mapUpdate; refine wpList_mapUpdate_own _ rfl _ _ _ 87 rfl 66 125 (Maps.int_keyed Tryz.underlying66) Tryz.underlying87 shR W.heap.size k D rfl HS3.out.map (by unfold maxLen; omega) (.int .u64 s.seq) s.val (.int .u64 s.seq) rfl rfl (Maps.keyOf_int_mk Tryz.underlying66 HWf.out) s.data [] (shR_val s) ?_; intro w5 hown5 hgrow5; have HS5 := hide (show RdSt W w5 (D.put (.int .u64 s.seq) s.data) (k + 1) from ⟨HS3.out.bel.grown hgrow5 HS3.out.bel.size (fun g hg => by cases hg; exact Nat.le_refl _), hown5⟩); clear hown5 hgrow5)
          go_roundw
          case rel => exact ⟨k + 1, by omega, by go_num, by rw [HN.out]; exact HS5.out⟩
          case measure => simp [intOf]; omega
        · have HN := hide (show shTo xs sec (k + 1) = D by rw [HStep.out]; simp only [shStep]; rw [if_neg hp])
          have hbe : ((2 : Int) + s.seq % (sec : Int) == 2 + (k : Int)) = false := by rw [beq_eq_false_iff_ne]; omega
          clear hp
          go_wp2_with fail
          go_roundw
          case rel => exact ⟨k + 1, by omega, by go_num, by rw [HN.out]; exact ⟨HS3.out.bel, HS3.out.map.mono (by omega)⟩⟩
          case measure => simp [intOf]; omega
    · obtain rfl : k = sec := by omega
      go_wp2_with fail
      go_ret2
      exact ⟨W.heap.size, rfl, ⟨_, by omega, HSt.out.map⟩, Nat.le_refl _, HSt.out.bel⟩
end Go.Proofs.YtnnfiicmplkakaaGreatDoor
namespace Go.Proofs.YtnnfiicmplkakaaGreatDoor
open Go.RowKit Go.Shelf

theorem shR_inv (v : Value) (y : DataW Unit × List MemPlace) (h : shR v = some y) : ∃ s : Sh, v = s.val := by
  unfold shR at h
  split at h
  · rename_i cs
    split at h
    · rename_i a b s hc
      exact ⟨⟨a, b, s⟩, by unfold Sh.val; congr 1; exact Array.toList_inj.1 hc⟩
    · cases h
  · cases h
def NextRes (first : Int) (D : DataW Unit) (W : World) (e : Ending) (W' : World) : Prop := (∃ v : Int, e = .returned (.int .u64 v) ∧ (0 ≤ v ∧ v < 18446744073709551616) ∧ ((∀ kl, Maps.has D kl = false) → v = first)) ∧ Below W.heap.size W W'
set_option maxHeartbeats 2000000 in
set_option maxRecDepth 20000 in
theorem next_any (bm n : Nat) (D : DataW Unit) (first : Int) (W : World) (h : W.ownsMap Tryz.prog 66 shR bm n D) (hf : 0 ≤ first ∧ first < 18446744073709551616) :
    Calls Tryz.prog 30 #[.map (some bm), .int .u64 first] W (NextRes first D W) := by
  have HM := hide h
  have HF := hide hf
  clear h hf
  go_enter Tryz.func30, Tryz.ntmps30
  go_wp2_with (at_range; refine wpList_range_own _ rfl _ 87 rfl 66 125 (Maps.int_keyed Tryz.underlying66) Tryz.underlying87 shR bm n D rfl HM.out ?_; intro w0 hrg0 hg0 hs0)
  have HR0 := hide hrg0
  have HB0 := hide (show Below W.heap.size W w0 from (Below.refl _ _).grown hg0 (Nat.le_refl _) (fun k hk => by cases hk))
  clear hrg0 hg0 hs0
  go_frame
  go_loopw [1] (fun x wr => (∃ v : Int, x = .int .u64 v ∧ (0 ≤ v ∧ v < 18446744073709551616) ∧ ((∀ kl, Maps.has D kl = false) → v = first)) ∧ Below W.heap.size W wr ∧ ∃ left cnt, wr.ranges Tryz.prog 66 shR bm W.heap.size n D left cnt ∧ ∀ kl, left kl = true → Maps.has D kl = true) (fun _ wr => wr.rangeLeft bm W.heap.size)
  case atStart => exact ⟨⟨first, rfl, HF.out, fun _ => rfl⟩, HB0.out, _, _, HR0.out, fun kl h => h⟩
  case round =>
    obtain ⟨⟨v, rfl, hv, hvf⟩, hb, left, cnt, hrg, hlf⟩ := hrel
    have HV := hide hv
    have HVf := hide hvf
    have HB := hide hb
    have HR := hide hrg
    have HL := hide hlf
    clear hv hvf hb hrg hlf
    go_wp2_with (at_next; refine wpList_next_ranges _ rfl _ rfl 66 (Maps.int_keyed Tryz.underlying66) shR (Value.int .u64) Sh.val (fun key kl hkey => by obtain ⟨x, rfl, _⟩ := Maps.keyOf_int_inv Tryz.underlying66 hkey; exact ⟨x, rfl⟩) (fun v y hv => shR_inv v y hv) bm W.heap.size n D left cnt rfl HR.out ?_ ?_)
    · intro _ _
      go_wp2
      go_ret
      exact ⟨⟨v, rfl, HV.out, HVf.out⟩, HB.out⟩
    · intro x c kl ya yb w1 cnt1 hkey hlk hv2 hat hrg1 hlt hg1 hs1 hen
      have HR1 := hide hrg1
      have HB1 := hide (HB.out.grown hg1 HB.out.size (fun k hk => by cases hk; exact Nat.le_refl _))
      have HNo := hide (show ¬ ∀ kl, Maps.has D kl = false from fun hno => by have := hno kl; rw [HL.out kl hlk] at this; cases this)
      have HLt := hide (show w1.rangeLeft bm W.heap.size < wr.rangeLeft bm W.heap.size by rw [hrg1.left_eq, HR.out.left_eq]; exact hlt)
      clear hkey hlk hv2 hat hrg1 hlt hg1 hs1
      go_wp2
      refine ⟨⟨⟨_, rfl, ?_, fun hno => absurd hno HNo.out⟩, HB1.out, _, _, HR1.out, fun z hz => HL.out z (by rw [Bool.and_eq_true] at hz; exact hz.1)⟩, HLt.out⟩
      have h1 := HV.out
      have h2 : 0 ≤ IntKind.u64.wrap (x + 1) ∧ IntKind.u64.wrap (x + 1) < 18446744073709551616 := by rw [IntKind.wrap_u64]; omega
      omega
end Go.Proofs.YtnnfiicmplkakaaGreatDoor
namespace Go.Proofs.YtnnfiicmplkakaaGreatDoor
open Go.RowKit Go.Shelf

theorem shTo_none (sec k : Nat) : shTo (fun _ => none) sec k = .map [] := by
  induction k with
  | zero => rfl
  | succ k ih => rw [shTo, ih]; rfl
theorem has_none (kl : Lit) : Maps.has (.map [] : DataW Unit) kl = false := rfl
theorem ShMap.below {W W' : World} {bm : Nat} {D : DataW Unit} (h : ShMap W bm D) (hb : Below W.heap.size W W') : ShMap W' bm D := by
  obtain ⟨n, hn, es, clock, h1, h2⟩ := h
  exact ⟨n, hn, es, clock, (hb.block bm (Array.getElem?_eq_some_iff.1 h1).1).trans h1, h2⟩
def freshHd (sec : Nat) (note : ByteArray) : Hd := ⟨1, 1, sec, note⟩
set_option maxHeartbeats 2000000 in
set_option maxRecDepth 20000 in
theorem walformat_any (bd n : Nat) (F : Nat → Prop) (c : Nat → List Int) (m sec : Nat) (note : ByteArray) (W : World) (h : Ds W bd n F c m) (hm : m + 1 ≤ 100000) (hs1 : 96 ≤ sec) (hs : sec ≤ 512) (hn : 2 + sec ≤ n) (hnt : note.size ≤ 64)
    (hx : ∀ i, i < 2 → HdIs (c i) none) (hy : ∀ i, i < sec → ShIs (c (2 + i)) none) (ht : Tab W) :
    Calls Tryz.prog 101 #[.pointer (some ⟨bd, 0, none⟩), .int .i64 sec, .string note] W (DsRes bd n F (upd c 1 (freshHd sec note).bytes) 0 W) := by
  have HD := hide h
  have HT := hide ht
  obtain ⟨A0, k0, hln⟩ := h.len
  have HLen := hide (dlen_any bd n k0 A0 W hln)
  have HCo := hide (h.counts (by omega) (by omega) (fun _ => none) hx ht)
  have HRd := fun W' (hb : Below W.heap.size W W') => hide (readall_any bd n F c m sec (fun _ => none) W' (h.below hb) (by omega) (by omega) (by omega) hn hy (ht.below hb))
  have HGd := hide (show (freshHd sec note).good from ⟨by show (0 : Int) ≤ 1 ∧ (1 : Int) < 18446744073709551616; decide, by show (0 : Int) ≤ 1 ∧ (1 : Int) < 18446744073709551616; decide, by show sec < 65536; omega, hnt⟩)
  have HWr := fun W' (hd : Ds W' bd n F c m) (ht : Tab W') => hide (walwrite_any bd n F c m 1 (freshHd sec note) W' hd hm (by omega) HGd.out ht)
  clear h ht hx hy hln
  go_enter Tryz.func101, Tryz.ntmps101
  go_wp2_with (go_at_call 21; refine HLen.out.mono ?_; rintro e w' ⟨rfl, rfl⟩)
  refine HCo.out.mono ?_
  rintro e w1 ⟨rfl, hb⟩
  have HB1 := hide hb
  have hb1sz := hb.size
  clear hb
  have e0 : bestTo (fun _ => none) 2 = none := rfl
  rw [e0]
  unfold Hd.val
  have hx2 := Whole.new w1 hd0.cells 84
  have hb2 : Below w1.heap.size w1 (w1.alloc (.cells hd0.cells.toArray 84)) := (Below.refl _ _).alloc (Nat.le_refl _) _
  change Whole (w1.alloc (.cells hd0.cells.toArray 84)) _ _ _ at hx2
  have HX2 := hide hx2
  have HB2 := hide (HB1.out.trans (hb2.mono HB1.out.size))
  clear hx2 hb2 HB1
  go_upto_region 8 with fail
  change Code.wp _ _ _ _ (w1.alloc (.cells hd0.cells.toArray 84))
  generalize w1.alloc (.cells hd0.cells.toArray 84) = w2 at *
  have hb7 : W.heap.size ≤ w1.heap.size := hb1sz
  generalize w1.heap.size = b7 at *
  go_wp2_with fail
  refine (HRd w2 HB2.out).out.mono ?_
  rintro e w3 ⟨bm, rfl, hmp, hbm, hb⟩
  rw [shTo_none] at hmp
  have HM3 := hide hmp
  have HB3 := hide (HB2.out.trans (hb.mono HB2.out.size))
  have HX3 := hide (HX2.out.below hb HX2.out.lt)
  clear hmp hb HX2 HB2
  go_upto_region 11 with fail
  have b0 : w3.cell? ⟨b7, 0, none⟩ = some (.int .u64 0) := HX3.out.cell 0
  have hbl := HX3.out.lt
  have hnb : ¬ F b7 := fun hf => by have := HD.out.lt hf; omega
  refine wp_region_held_drew (S := (fun w' => Kp F w3 w')) (by kernel_rfl) ((Kp.refl _ _).drew) (fun hHeld => ?_)
  have hHeldB : Below w3.heap.size w3 w3.drew := (Below.refl _ _).drew
  have HBd := hide (HB3.out.trans (hHeldB.mono HB3.out.size))
  have HMd := hide (HM3.out.below hHeldB)
  generalize w3.drew = wd at *
  refine wpAnyH_take (i := 0) (v := ?vq1) rfl (by kernel_rfl) (by kernel_rfl) (by kernel_rfl) (fun _ _ _ h => h) (Or.inl ⟨by rfl, ?hq1⟩) (by assumption) ?rq1
  case hq1 => (intro wq hSw; go_simp; (try with_reducible rfl))
  try simp only [Act.put, List.getElem_toArray, List.getElem_cons_zero, List.setIfInBounds_toArray, List.set_cons_zero, List.set_cons_succ]
  refine wpAnyH_take (i := 1) (v := ?vq2) rfl (by kernel_rfl) (by kernel_rfl) (by kernel_rfl) (fun _ _ _ h => h) (Or.inl ⟨by rfl, ?hq2⟩) (by assumption) ?rq2
  case hq2 => (intro wq hSw; go_simp; (try with_reducible rfl))
  try simp only [Act.put, List.getElem_toArray, List.getElem_cons_zero, List.getElem_cons_succ, List.setIfInBounds_toArray, List.set_cons_zero, List.set_cons_succ]
  refine wpAnyH_take (i := 3) (v := ?vq3) rfl (by kernel_rfl) (by kernel_rfl) (by kernel_rfl) (fun _ _ _ h => h) (Or.inl ⟨by rfl, ?hq3⟩) (by assumption) ?rq3
  case hq3 => (intro wq hSw; go_simp; (try with_reducible rfl))
  try simp only [Act.put, List.getElem_toArray, List.getElem_cons_zero, List.getElem_cons_succ, List.setIfInBounds_toArray, List.set_cons_zero, List.set_cons_succ]
  refine wpAnyH_take (i := 4) (v := ?vq4) rfl (by kernel_rfl) (by kernel_rfl) (by kernel_rfl) (fun _ _ _ h => h) (Or.inl ⟨by rfl, ?hq4⟩) (by assumption) ?rq4
  case hq4 => (intro wq hSw; have e := (hSw.cell (p := ⟨b7, 0, none⟩) hbl hnb).trans b0; go_simp; (try with_reducible rfl))
  try simp only [Act.put, List.getElem_toArray, List.getElem_cons_zero, List.getElem_cons_succ, List.setIfInBounds_toArray, List.set_cons_zero, List.set_cons_succ]
  refine wpAnyH_take (i := 5) (v := ?vq5) rfl (by kernel_rfl) (by kernel_rfl) (by kernel_rfl) (fun _ _ _ h => h) (Or.inl ⟨by rfl, ?hq5⟩) (by assumption) ?rq5
  case hq5 => (intro wq hSw; go_simp; (try with_reducible rfl))
  try simp only [Act.put, List.getElem_toArray, List.getElem_cons_zero, List.getElem_cons_succ, List.setIfInBounds_toArray, List.set_cons_zero, List.set_cons_succ]
  refine wpAnyH_take (i := 6) (v := ?vq6) rfl (by kernel_rfl) (by kernel_rfl) (by kernel_rfl) (fun _ _ _ h => h) (Or.inl ⟨by rfl, ?hq6⟩) (by assumption) ?rq6
  case hq6 => (intro wq hSw; go_simp; (try with_reducible rfl))
  try simp only [Act.put, List.getElem_toArray, List.getElem_cons_zero, List.getElem_cons_succ, List.setIfInBounds_toArray, List.set_cons_zero, List.set_cons_succ]
  refine wpAnyH_take (i := 8) (v := ?vq7) rfl (by kernel_rfl) (by kernel_rfl) (by kernel_rfl) (fun _ _ _ h => h) (Or.inl ⟨by rfl, ?hq7⟩) (by assumption) ?rq7
  case hq7 => (intro wq hSw; go_simp; (try with_reducible rfl))
  try simp only [Act.put, List.getElem_toArray, List.getElem_cons_zero, List.getElem_cons_succ, List.setIfInBounds_toArray, List.set_cons_zero, List.set_cons_succ]
  refine wpAnyH_take (i := 9) (v := ?vq8) rfl (by kernel_rfl) (by kernel_rfl) (by kernel_rfl) (fun _ _ _ h => h) (Or.inl ⟨by rfl, ?hq8⟩) (by assumption) ?rq8
  case hq8 => (intro wq hSw; go_simp; (try with_reducible rfl))
  try simp only [Act.put, List.getElem_toArray, List.getElem_cons_zero, List.getElem_cons_succ, List.setIfInBounds_toArray, List.set_cons_zero, List.set_cons_succ]
  refine wpAnyH_ready (rs := [2]) (by kernel_rfl) (by simp) ?_
  refine AllReadyH.cons (o := _) rfl (fun K hK => ?_) ?_
  · skip
    go_simp
    refine (other_any (-1) wd (by decide) (by decide)).mono ?_
    rintro e wo ⟨rfl, rfl⟩
    refine hK.out _ _ (hHeld) (fun hHeld => ?_)
    clear hK K 
    try simp only [Act.put, List.getElem_toArray, List.getElem_cons_zero, List.getElem_cons_succ, List.setIfInBounds_toArray, List.set_cons_zero, List.set_cons_succ]
    refine wpAnyH_ready (rs := [7]) (by kernel_rfl) (by simp) ?_
    refine AllReadyH.cons (o := _) rfl (fun K hK => ?_) ?_
    · skip
      go_simp
      obtain ⟨nn, hnn, hown⟩ := HMd.out
      refine (next_any bm nn _ 1 wd hown (by decide)).mono ?_
      rintro e wn ⟨⟨vn, rfl, _, hv⟩, hb⟩
      obtain rfl : vn = 1 := hv has_none
      have HBn := hide (HBd.out.trans (hb.mono HBd.out.size))
      have HKn := hide (show Kp F w3 wn from Kp.of_below (hHeldB.trans (hb.mono hHeldB.size)))
      clear hv hb hown
      refine hK.out _ _ (HKn.out) (fun hHeld => ?_)
      clear hK K 
      try simp only [Act.put, List.getElem_toArray, List.getElem_cons_zero, List.getElem_cons_succ, List.setIfInBounds_toArray, List.set_cons_zero, List.set_cons_succ]
      refine wpAnyH_take (i := 10) (v := ?vq9) rfl (by kernel_rfl) (by kernel_rfl) (by kernel_rfl) (fun _ _ _ h => h) (Or.inl ⟨by rfl, ?hq9⟩) (by assumption) ?rq9
      case hq9 => (intro wq hSw; go_simp; (try with_reducible rfl))
      try simp only [Act.put, List.getElem_toArray, List.getElem_cons_zero, List.getElem_cons_succ, List.setIfInBounds_toArray, List.set_cons_zero, List.set_cons_succ]
      refine wpAnyH_ready (rs := [11]) (by kernel_rfl) (by simp) ?_
      refine AllReadyH.cons (o := _) rfl (fun K hK => ?_) ?_
      · skip
        go_simp
        refine (HWr wn (HD.out.below HBn.out) (HT.out.below HBn.out)).out.mono ?_
        rintro e w5 hr
        have HR := hide (DsRes.then_ (Kp.of_below HBn.out) (fun k hk => .inl hk) hr)
        obtain ⟨rfl, _, _, hk5, _⟩ := hr
        have HK5 := hide (HKn.out.same hk5)
        clear hk5
        refine hK.out _ _ (HK5.out) (fun hHeld => ?_)
        clear hK K 
        try simp only [Act.put, List.getElem_toArray, List.getElem_cons_zero, List.getElem_cons_succ, List.setIfInBounds_toArray, List.set_cons_zero, List.set_cons_succ]
        refine wpAnyH_take (i := 12) (v := ?vq10) rfl (by kernel_rfl) (by kernel_rfl) (by kernel_rfl) (fun _ _ _ h => h) (Or.inl ⟨by rfl, ?hq10⟩) (by assumption) ?rq10
        case hq10 => (intro wq hSw; go_simp; (try with_reducible rfl))
        try simp only [Act.put, List.getElem_toArray, List.getElem_cons_zero, List.getElem_cons_succ, List.setIfInBounds_toArray, List.set_cons_zero, List.set_cons_succ]
        refine wpAnyH_done (by kernel_rfl) ?_ _
        go_wp2_with fail
        go_ret
        exact HR.out
      exact AllReadyH.nil
    exact AllReadyH.nil
  exact AllReadyH.nil
end Go.Proofs.YtnnfiicmplkakaaGreatDoor
