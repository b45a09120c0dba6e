/- Walk of Keep: the main way. -/
import Derived.Test.YtbajnkkekibdmaaDoorW11
import Derived.StillTailTactics
namespace Go.Proofs.YtbajnkkekibdmaaDoor
open Go.RowKit Go.Shelf Go.Lib
attribute [local go_sem] Oper.semAt_some

theorem infoBool : (Tryd.prog.info? 4).map (fun i => (i.zero, i.size, i.bytes)) = some (some (.bool false), 1, 1) := by kernel_rfl
theorem made_bools (n : Nat) : madeCells #[.bool false] n = (bools (List.replicate n false)).toArray := by
  apply Array.ext
  · simp [madeCells, bools]
  · intro i h1 h2
    simp [madeCells, bools]
    rw [Nat.mod_one]
    rfl
theorem run_made {n : Nat} (hn : n ≤ 256) (u : World) : (Instr.makeSlice 31 (.int .i64 (n : Int)) (.int .i64 (n : Int))).run Tryd.prog u = .ok (.slice (some ⟨u.heap.size, 0, none⟩) n n) (u.alloc (.cells (bools (List.replicate n false)).toArray 4)) := by
  obtain ⟨i0, hi, hz0, hz1, hz2⟩ := info_parts infoBool
  have h := run_make (P := Tryd.prog) u 31 4 i0 (.bool false) Tryd.underlying31 hi hz0 .i64 .i64 n n (by omega) (Int.le_refl _) (by rw [hz2]; omega) (by omega)
  rw [hz1, Nat.mul_one] at h
  simp only [Int.toNat_natCast] at h
  rw [h, ← made_bools]
  rfl

theorem bss_len (ss : List ByteArray) : (bss ss).length = ss.length := by simp [bss]
theorem not_nodup {ss : List ByteArray} {k : Nat} (hk : k < ss.length) (h : ss[k].data.toList ∈ (bss ss).take k) : ¬ (bss ss).Nodup := by
  intro hn
  have e : bss ss = (bss ss).take k ++ (bss ss).drop k := (List.take_append_drop _ _).symm
  rw [e] at hn
  refine (List.nodup_append.1 hn).2.2 _ h _ ?_ rfl
  have hk' : k < (bss ss).length := by rw [bss_len]; exact hk
  rw [List.drop_eq_getElem_cons hk', bss_get ss k hk]
  simp
theorem err_exist {ss : List ByteArray} {p : Po} (hmay : Pl.may p.pol = true) (hl : ss.length ≤ 256) (h : ¬ (bss ss).Nodup) : Pl.err (bss ss) p.pol = 9 := by
  unfold Pl.err
  rw [hmay, if_neg (by simp), if_neg (by rw [bss_len]; omega), if_neg h]
theorem nodup_snoc {ss : List ByteArray} {k : Nat} (hk : k < ss.length) (h : ((bss ss).take k).Nodup) (hn : ss[k].data.toList ∉ (bss ss).take k) : ((bss ss).take (k + 1)).Nodup ∧ (bss ss).take (k + 1) = (bss ss).take k ++ [ss[k].data.toList] := by
  have hk' : k < (bss ss).length := by rw [bss_len]; exact hk
  have e : (bss ss).take (k + 1) = (bss ss).take k ++ [ss[k].data.toList] := by rw [List.take_succ_eq_append_getElem hk', bss_get ss k hk]
  refine ⟨?_, e⟩
  rw [e]
  exact List.nodup_append.2 ⟨h, by simp, fun a ha b hb => by simp at hb; subst hb; exact fun e => hn (e ▸ ha)⟩

/-- the indexes of those that were collected -/
def idx (d : List One) : List Nat := d.map (·.i)
/-- what the row of bools holds behind k rules -/
def markTo (ns : List Pl.Bs) (p : Pl.Pol) (d : List One) (k : Nat) : List Bool := (p.rules.take k).foldl (fun o r => Pl.mark o ((idx (perD r.1 [] d)).take r.2.toNat)) (Pl.base ns p)
/-- the rest of the memory behind k rules -/
theorem four_boxes (wx : World) (c1 c2 c3 c4 : List Value) (t1 t2 t3 t4 : TypeId) (wp : World) (h : (((wx.alloc (.cells c1.toArray t1)).alloc (.cells c2.toArray t2)).alloc (.cells c3.toArray t3)).alloc (.cells c4.toArray t4) = wp) :
    Below wx.heap.size wx wp ∧ wp.heap.size = wx.heap.size + 4 ∧ Whole wp (wx.heap.size + 1) t2 c2 ∧ Whole wp (wx.heap.size + 1 + 1) t3 c3 ∧ Whole wp (wx.heap.size + 1 + 1 + 1) t4 c4 := by
  have s1 : (wx.alloc (.cells c1.toArray t1)).heap.size = wx.heap.size + 1 := by simp
  have s2 : ((wx.alloc (.cells c1.toArray t1)).alloc (.cells c2.toArray t2)).heap.size = wx.heap.size + 2 := by simp
  have s3 : (((wx.alloc (.cells c1.toArray t1)).alloc (.cells c2.toArray t2)).alloc (.cells c3.toArray t3)).heap.size = wx.heap.size + 3 := by simp
  subst h
  have b4 := Below.refl ((((wx.alloc (.cells c1.toArray t1)).alloc (.cells c2.toArray t2)).alloc (.cells c3.toArray t3))).heap.size (((wx.alloc (.cells c1.toArray t1)).alloc (.cells c2.toArray t2)).alloc (.cells c3.toArray t3)) |>.alloc (Nat.le_refl _) (.cells c4.toArray t4)
  have b3 := Below.refl (((wx.alloc (.cells c1.toArray t1)).alloc (.cells c2.toArray t2))).heap.size ((wx.alloc (.cells c1.toArray t1)).alloc (.cells c2.toArray t2)) |>.alloc (Nat.le_refl _) (.cells c3.toArray t3)
  refine ⟨((((Below.refl _ wx).alloc (Nat.le_refl _) _).alloc (by omega) _).alloc (by omega) _).alloc (by omega) _, by simp, ?_, ?_, ?_⟩
  · have h := Whole.new (wx.alloc (.cells c1.toArray t1)) c2 t2
    rw [s1] at h
    exact (h.below b3 (by omega)).below b4 (by omega)
  · have h := Whole.new ((wx.alloc (.cells c1.toArray t1)).alloc (.cells c2.toArray t2)) c3 t3
    rw [s2] at h
    exact h.below b4 (by omega)
  · have h := Whole.new (((wx.alloc (.cells c1.toArray t1)).alloc (.cells c2.toArray t2)).alloc (.cells c3.toArray t3)) c4 t4
    rw [s3] at h
    exact h
theorem marks_len (d : List One) (rs : List (Int × Int)) : ∀ o : List Bool, (rs.foldl (fun o r => Pl.mark o ((idx (perD r.1 [] d)).take r.2.toNat)) o).length = o.length := by
  induction rs with
  | nil => intro o; rfl
  | cons r rs ih => intro o; rw [List.foldl_cons, ih, Pl.mark_length]
theorem markTo_len (ss : List ByteArray) (p : Po) (d : List One) (k : Nat) : (markTo (bss ss) p.pol d k).length = ss.length := by
  unfold markTo
  rw [marks_len]
  simp [Pl.base, bss]
theorem markTo_succ (ns : List Pl.Bs) (p : Po) (d : List One) (k : Nat) (h : k < p.rs.length) (sp c : Int) (hr : p.rs[k] = (sp, c)) : markTo ns p.pol d (k + 1) = Pl.mark (markTo ns p.pol d k) ((idx (perD sp [] d)).take c.toNat) := by
  unfold markTo
  have e : p.pol.rules.take (k + 1) = p.pol.rules.take k ++ [(sp, c)] := by
    show p.rs.take (k + 1) = p.rs.take k ++ [(sp, c)]
    rw [List.take_succ_eq_append_getElem h, hr]
  rw [e, List.foldl_append]
  rfl
/-- what a range over a rule's periods keeps: so many have come -/
structure RoundSt (wp : World) (R L B : Nat) (bl : List Bool) (c : Int) (m : Nat) (W : World) (stp : List Bool → World → Prop) (pre : List One) : Prop where
  le : (m : Int) ≤ c
  st : stp (Pl.mark bl (idx pre)) W
  left : Whole W L B [.int .i64 (c - m)]
  kept : KeptX (fun k => k = R ∨ k = L) wp W
theorem mem_ones {ss : List ByteArray} {d : List One} (h : Sorted1 ss d) {x : One} (hx : x ∈ d) : x.i < ss.length ∧ Pl.has (Pl.at_ (bss ss) x.i) = true ∧ x.nm.data.toList = Pl.at_ (bss ss) x.i ∧ x.at_ = Pl.st (Pl.at_ (bss ss) x.i) := by
  have hx' := h.perm.mem_iff.1 hx
  unfold onesTo at hx'
  obtain ⟨i, hi, hxi⟩ := List.mem_flatMap.1 hx'
  have hi' : i < ss.length := by simpa using hi
  unfold oneAt at hxi
  split at hxi
  · rename_i hh
    simp at hxi
    subst hxi
    refine ⟨hi', hh, ?_, rfl⟩
    rw [Pl.at_get (by rw [bss_len]; exact hi'), bss_get ss i hi']
    simp [hi']
  · cases hxi
theorem st_lt (s : Pl.Bs) : Pl.st s < 1000000000 := by
  unfold Pl.st
  split
  · rename_i h
    unfold Pl.has at h
    simp at h
    refine Nat.lt_of_lt_of_le (num_lt _ fun c hc => ?_) (pow_le9 h.2)
    unfold Pl.digs at hc
    rw [List.mem_reverse] at hc
    have := List.all_takeWhile (p := Pl.dig) (l := s.reverse)
    rw [List.all_eq_true] at this
    exact this c hc
  · omega
theorem perD_sub (sp : Int) (l : List One) : ∀ seen, ∀ x ∈ perD sp seen l, x ∈ l := by
  induction l with
  | nil => intro seen x hx; cases hx
  | cons y l ih =>
    intro seen x hx
    unfold perD at hx
    split at hx
    · exact List.mem_cons_of_mem _ (ih _ x hx)
    · rcases List.mem_cons.1 hx with rfl | hx
      · simp
      · exact List.mem_cons_of_mem _ (ih _ x hx)
theorem RoundSt.below {wp : World} {R L B : Nat} {bl : List Bool} {c : Int} {m : Nat} {W W' : World} {stp : List Bool → World → Prop} {pre : List One} (h : RoundSt wp R L B bl c m W stp pre) (hb : Below wp.heap.size W W') (hL : L < wp.heap.size) (hs : ∀ b, stp b W → stp b W') : RoundSt wp R L B bl c m W' stp pre :=
  ⟨h.le, hs _ h.st, h.left.below hb hL, ⟨h.kept.1.trans (hb.mono (Nat.zero_le _)), fun j hj hn => (hb.block j hj).trans (h.kept.2 j hj hn)⟩⟩
structure RuleSt (w4 : World) (A4 : Option Addr) (d : List One) (Ds : List Nat) (wx : World) : Prop where
  mem : Mem wx w4.heap.size A4 (ones d)
  marks : Marked wx w4.heap.size Ds
  size : w4.heap.size ≤ wx.heap.size
theorem RuleSt.below {w4 : World} {A4 : Option Addr} {d : List One} {Ds : List Nat} {wx w' : World} (h : RuleSt w4 A4 d Ds wx) (hb : Below wx.heap.size wx w') : RuleSt w4 A4 d Ds w' :=
  ⟨h.mem.below (hb.mono h.size), ⟨h.marks.nodup, h.marks.low, fun D hD => (hb.block D (Array.getElem?_eq_some_iff.1 (h.marks.at_ D hD)).1).trans (h.marks.at_ D hD)⟩, Nat.le_trans h.size hb.size⟩
theorem RuleSt.store {w4 : World} {A4 : Option Addr} {d : List One} {Ds : List Nat} {wx : World} (h : RuleSt w4 A4 d Ds wx) {R : Nat} (hR : R < w4.heap.size) (hne : ∀ b off, A4 = some ⟨b, off, none⟩ → b ≠ R) (i : Nat) (v : Value) : RuleSt w4 A4 d Ds (wx.setCell ⟨R, i, none⟩ v) := by
  refine ⟨fun hd => ?_, ⟨h.marks.nodup, h.marks.low, fun D hD => (Below.heap_setCell wx _ _ _ (by have := h.marks.low D hD; simp only; omega)).trans (h.marks.at_ D hD)⟩, by simpa [World.setCell] using h.size⟩
  obtain ⟨b, off, hA, hb, hc⟩ := h.mem hd
  exact ⟨b, off, hA, hb, fun j hj => (World.cell?_of_block (Below.heap_setCell wx ⟨R, i, none⟩ v b (hne b off hA))).trans (hc j hj)⟩
theorem lt_newer {ss : List ByteArray} {d : List One} (h : Sorted1 ss d) {x y : One} (hx : x ∈ d) (hy : y ∈ d) : ltOf cf y x = Pl.newer (Pl.at_ (bss ss) y.i) (Pl.at_ (bss ss) x.i) := by
  rw [Bool.eq_iff_iff, cf_neg, Pl.newer_iff]
  obtain ⟨_, _, hx1, hx2⟩ := mem_ones h hx
  obtain ⟨_, _, hy1, hy2⟩ := mem_ones h hy
  rw [hx1, hx2, hy1, hy2]
theorem idx_onesTo (ss : List ByteArray) : idx (onesTo ss ss.length) = (List.range ss.length).filter fun i => Pl.has (Pl.at_ (bss ss) i) := by
  unfold idx onesTo
  generalize List.range ss.length = l
  induction l with
  | nil => rfl
  | cons i l ih =>
    rw [List.flatMap_cons, List.map_append, ih, List.filter_cons]
    unfold oneAt
    split
    · simp
    · simp
theorem sorted_idx {ss : List ByteArray} {d : List One} (h : Sorted1 ss d) (hn : (bss ss).Nodup) : Pl.Sorted (bss ss) (idx d) := by
  have hp : (idx d).Perm (idx (onesTo ss ss.length)) := h.perm.map _
  rw [idx_onesTo] at hp
  refine Pl.sorted_of hn (fun i => ?_) (hp.nodup_iff.2 (List.nodup_range.filter _)) ?_
  · rw [hp.mem_iff, List.mem_filter, List.mem_range, bss_len]
  · unfold idx
    rw [List.pairwise_map]
    exact List.Pairwise.imp_of_mem (fun {x y} hx hy hxy => by rw [lt_newer h hx hy] at hxy; exact hxy) h.ord
theorem idx_perD {ss : List ByteArray} (sp : Int) (l : List One) (hl : ∀ x ∈ l, x.at_ = Pl.st (Pl.at_ (bss ss) x.i)) : ∀ seen, idx (perD sp seen l) = Pl.perL (bss ss) sp seen (idx l) := by
  induction l with
  | nil => intro seen; rfl
  | cons x l ih =>
    intro seen
    have hx := hl x (by simp)
    have e : perO sp x = Pl.per sp (Pl.at_ (bss ss) x.i) := by unfold perO Pl.per; rw [hx]
    have ih' := ih (fun y hy => hl y (by simp [hy]))
    show idx (perD sp seen (x :: l)) = Pl.perL (bss ss) sp seen (x.i :: idx l)
    unfold perD Pl.perL
    rw [e]
    split
    · exact ih' _
    · show x.i :: idx _ = _
      rw [ih']
theorem marks_eq {ss : List ByteArray} {d : List One} (h : Sorted1 ss d) (rs : List (Int × Int)) : ∀ o : List Bool, rs.foldl (fun o r => Pl.mark o ((idx (perD r.1 [] d)).take r.2.toNat)) o = rs.foldl (fun o r => Pl.mark o ((Pl.perL (bss ss) r.1 [] (idx d)).take r.2.toNat)) o := by
  induction rs with
  | nil => intro o; rfl
  | cons r rs ih =>
    intro o
    rw [List.foldl_cons, List.foldl_cons, ih, idx_perD (ss := ss) r.1 d (fun x hx => (mem_ones h hx).2.2.2)]
/-- **what the row of bools holds at the end** -/
theorem out_eq {ss : List ByteArray} {p : Po} {d : List One} (h : Sorted1 ss d) (hn : (bss ss).Nodup) (hmay : Pl.may p.pol = true) (hsp : ∀ r ∈ p.rs, 0 ≤ r.1) (hl : ss.length ≤ 256) :
    Pl.err (bss ss) p.pol = 0 ∧ Pl.keep (bss ss) p.pol = Pl.mark (markTo (bss ss) p.pol d p.rs.length) ((idx d).take p.last.toNat) := by
  have he : Pl.err (bss ss) p.pol = 0 := by rw [Pl.err_iff, bss_len]; exact ⟨hmay, hl, hn⟩
  refine ⟨he, ?_⟩
  obtain ⟨h1, _, _, h4, _⟩ := Pl.may_parts hmay
  have hs := (sorted_idx h hn).outF_eq p.pol (fun r hr => ⟨by have := h4 r hr; have := hsp r hr; omega, (h4 r hr).2.1⟩) h1.1
  unfold Pl.keep
  rw [if_pos he, ← hs]
  unfold Pl.outF markTo
  have e : p.pol.rules.take p.rs.length = p.pol.rules := List.take_of_length_le (Nat.le_refl _)
  rw [e, marks_eq h]
  rfl

set_option maxHeartbeats 2000000 in
set_option maxRecDepth 100000 in
theorem keep_main (p : Po) (RA PA : Option Addr) (rc pc : Nat) (A : Option Addr) (cap : Nat) (ss : List ByteArray) (w : World) (hp : PoAt w w.heap.size p RA PA) (hm : Mem w w.heap.size A (strs ss)) (hs : ∀ s ∈ ss, s.size ≤ maxLen)
    (hmay : Pl.may p.pol = true) (hl : ss.length ≤ 256) (hsp : ∀ r ∈ p.rs, 0 ≤ r.1 ∧ r.1 < 4294967296) :
    Calls Tryd.prog 10 #[.slice A ss.length cap, .agg #[.int .i64 p.last, .slice RA p.rs.length rc, .slice PA p.ps.length pc]] w (KeepRes ss p w) := by
  have hB0 : ∀ o, Below w.heap.size w (w.alloc o) := fun o => (Below.refl _ _).alloc (Nat.le_refl _) o
  have HM := fun o => hide (may_any p RA PA rc pc (w.alloc o) ((hp.below (hB0 o)).mono (by simp)))
  rw [hmay] at HM
  have HMay := hide hmay
  have HP := hide hp
  have HMem := hide hm
  have HS := hide hs
  have HSP := hide hsp
  have hmm := @run_makeMap Tryd.prog
  have hmk := fun u => run_made hl u
  clear hmay hp hm hs hsp
  refine callsIn_wide.1 (callsIn_of_wp_marks (n := 5) Tryd.func10 rfl trivial ?_ rfl)
  refine wpIn_wide.2 ?_
  simp only [Tryd.ntmps10, List.size_toArray, List.length_cons, List.length_nil, Nat.reduceAdd, Nat.reduceSub, Array.replicate_succ, Array.replicate_zero, List.push_toArray, List.append_toArray, List.nil_append, List.cons_append]
  go_wp2_with (go_at_call 13; refine (HM _).out.mono ?_; rintro e w1 ⟨rfl, hb⟩; have HB := hide hb; clear hb)
  have hwB : Below w.heap.size w w1 := (hB0 _).trans (HB.out.mono (by simp))
  have hP0 : Whole w1 w.heap.size 37 [.int .i64 p.last, .slice RA p.rs.length rc, .slice PA p.ps.length pc] := (Whole.new w _ _).below HB.out (by simp)
  have hlt0 : w.heap.size < w1.heap.size := hP0.lt
  have HWB := hide hwB
  have HP0 := hide hP0
  clear HB hwB hP0
  go_loopw [33] (fun i wr => ∃ k : Nat, k ≤ ss.length ∧ i = .int .i64 k ∧ (∃ D, wr.ownsMap Tryd.prog 9 (plainElem Tryd.prog 3) (w1.heap.size + 1 + 1) k D ∧ NamesIn D ((bss ss).take k)) ∧ ((bss ss).take k).Nodup ∧
      St wr (w1.heap.size + 1 + 1) w w.heap.size w1.heap.size (w1.heap.size + 1) p.last RA PA p.rs.length rc p.ps.length pc ss.length (outTo (bss ss) p.pol k)) (fun i _ => ss.length - (intOf i).toNat)
  case atStart =>
    have eM := World.ownsMap_made (H := Unit) ((w1.alloc (.cells (bools (List.replicate ss.length false)).toArray 4)).alloc (.cells #[.slice (some ⟨w1.heap.size, 0, none⟩) ss.length ss.length] 31)) Tryd.prog 9 (plainElem Tryd.prog 3)
    have e2 : ((w1.alloc (.cells (bools (List.replicate ss.length false)).toArray 4)).alloc (.cells #[.slice (some ⟨w1.heap.size, 0, none⟩) ss.length ss.length] 31)).heap.size = w1.heap.size + 1 + 1 := by simp
    rw [e2] at eM
    refine ⟨0, Nat.zero_le _, rfl, ⟨_, eM, NamesIn.start⟩, by simp, ?_⟩
    have s1 : (w1.alloc (.cells (bools (List.replicate ss.length false)).toArray 4)).heap.size = w1.heap.size + 1 := by simp
    have b0 : Below w1.heap.size w1 (((w1.alloc (.cells (bools (List.replicate ss.length false)).toArray 4)).alloc (.cells #[.slice (some ⟨w1.heap.size, 0, none⟩) ss.length ss.length] 31)).alloc (.map #[] 0)) :=
      (((Below.refl _ _).alloc (Nat.le_refl _) _).alloc (by omega) _).alloc (by omega) _
    have b1 : Below (w1.heap.size + 1) (w1.alloc (.cells (bools (List.replicate ss.length false)).toArray 4)) (((w1.alloc (.cells (bools (List.replicate ss.length false)).toArray 4)).alloc (.cells #[.slice (some ⟨w1.heap.size, 0, none⟩) ss.length ss.length] 31)).alloc (.map #[] 0)) :=
      ((Below.refl _ _).alloc (by omega) _).alloc (by omega) _
    have b2 : Below (w1.heap.size + 1 + 1) ((w1.alloc (.cells (bools (List.replicate ss.length false)).toArray 4)).alloc (.cells #[.slice (some ⟨w1.heap.size, 0, none⟩) ss.length ss.length] 31)) (((w1.alloc (.cells (bools (List.replicate ss.length false)).toArray 4)).alloc (.cells #[.slice (some ⟨w1.heap.size, 0, none⟩) ss.length ss.length] 31)).alloc (.map #[] 0)) :=
      (Below.refl _ _).alloc (by omega) _
    have hr := (Whole.new w1 (bools (List.replicate ss.length false)) 4).below b1 (by omega)
    have ho := Whole.new (w1.alloc (.cells (bools (List.replicate ss.length false)).toArray 4)) [.slice (some ⟨w1.heap.size, 0, none⟩) ss.length ss.length] 31
    rw [s1] at ho
    have e0 : outTo (bss ss) p.pol 0 = List.replicate ss.length false := by simp [outTo, bss]
    rw [e0]
    exact ⟨HP0.out.below b0 hlt0, hr, ho.below b2 (by omega), HWB.out.trans (b0.mono (by omega)), Nat.le_refl _, hlt0, by omega, by omega, by simp⟩
  case round =>
    obtain ⟨k, hk, rfl, ⟨D, hown, hD⟩, hnd, hst⟩ := hrel
    have HO := hide hown
    have HD := hide hD
    have HND := hide hnd
    have HSt := hide hst
    clear hown hD hnd hst
    by_cases hlt : k < ss.length
    · obtain ⟨b, off, rfl, hb, hcs⟩ := (HMem.out.below HSt.out.bel).get (by rw [strs_len]; omega)
      have hck := hcs k (by rw [strs_len]; exact hlt)
      rw [strs_get ss k hlt] at hck
      have hsz := HS.out _ (List.getElem_mem hlt)
      clear hcs
      by_cases hin : ss[k].data.toList ∈ (bss ss).take k
      · have HIN := hide hin
        clear hin
        go_wp2_with (at_lookup; refine wpList_lookup_own_int _ rfl _ _ 49 rfl 9 3 .i64 (Maps.string_keyed Tryd.underlying9) Tryd.underlying49 Tryd.underlying3 (Tryd.zeroValue3 _) (w1.heap.size + 1 + 1) k _ rfl HO.out _ _ rfl (WideMaps.keyOf_string_mk Tryd.underlying9 hsz) ?_; intro c hat hwc; have hc1 := HD.out.val hat; rw [if_pos HIN.out] at hc1; subst hc1; clear hat hwc)
        refine ⟨_, results_tmp2 rfl _ _ _, ?_⟩
        exact keepRes_none (err_exist HMay.out hl (not_nodup hlt HIN.out)) (by decide) HSt.out.bel
      · have HIN := hide hin
        clear hin
        have hN := stamp_any ss[k]
        generalize hh : Pl.has ss[k].data.toList = h at hN
        generalize hst : Pl.st ss[k].data.toList = x at hN
        have HH := hide hh
        have HN := hide hN
        clear hh hst hN
        go_wp2_with (first | (at_lookup; refine wpList_lookup_own_int _ rfl _ _ 49 rfl 9 3 .i64 (Maps.string_keyed Tryd.underlying9) Tryd.underlying49 Tryd.underlying3 (Tryd.zeroValue3 _) (w1.heap.size + 1 + 1) k _ rfl HO.out _ _ rfl (WideMaps.keyOf_string_mk Tryd.underlying9 hsz) ?_; intro c hat hwc; have hc1 := HD.out.val hat; rw [if_neg HIN.out] at hc1; subst hc1; clear hat hwc) | (at_mapUpdate; refine wpList_mapUpdate_own _ rfl _ _ _ 49 rfl 9 3 (Maps.string_keyed Tryd.underlying9) Tryd.underlying49 _ (w1.heap.size + 1 + 1) k _ rfl HO.out (by unfold maxLen; omega) _ _ _ rfl rfl (WideMaps.keyOf_string_mk Tryd.underlying9 hsz) _ [] (plainElem_int Tryd.underlying3 (WalkArith.wf_i64 (by omega))) ?_; intro w2 hown2 hg2; have HO2 := hide hown2; have HB2 : Hid (Below (w1.heap.size + 1 + 1) wr w2) := hide ((Below.refl _ _).grown hg2 HSt.out.o5 (fun j hj => by cases hj; exact Nat.le_refl _)); clear hown2 hg2) | (go_at_call 8; refine (HN.out w2 hsz).mono ?_; rintro e w3 ⟨rfl, hb3⟩; have HB3 := hide hb3; clear hb3))
        have hst3 := HSt.out.below (HB2.out.trans (HB3.out.mono (Nat.le_trans HSt.out.o5 HB2.out.size)))
        have HSt3 := hide hst3
        have cO := hst3.out.cell 0
        have cP := hst3.pol.cell 2
        have cR : w3.cell? ⟨w1.heap.size, k, none⟩ = some (.bool ((outTo (bss ss) p.pol k)[k]?.getD false)) := by
          rw [hst3.row.cell k]
          have hl' : k < (outTo (bss ss) p.pol k).length := by rw [outTo_len _ _ _ (by rw [bss_len]; omega), bss_len]; exact hlt
          simp [bools, hl']
        have fR := hst3.row.frozen k
        have hpins := HP.out.pins.below hst3.bel
        have hplen := HP.out.plen
        clear hst3
        have HC := hide (fun W (hW : Mem W w.heap.size PA (strs p.ps)) => (contains_any PA pc p.ps ss[k] w.heap.size W hW hplen).mono (R' := fun e w'' => e = .returned (.bool ((bss p.ps).contains ss[k].data.toList)) ∧ w'' = W) fun e w' hh => ⟨hh.1, hh.2.symm⟩)
        have HPin := hide hpins
        clear hpins
        generalize hbb : (outTo (bss ss) p.pol k)[k]?.getD false = b0 at cR
        clear hbb
        have FIN := hide (show ∀ y : Bool, y = (!(Pl.has ss[k].data.toList) || p.pol.pins.contains ss[k].data.toList) → (∃ D, (w3.setCell ⟨w1.heap.size, k, none⟩ (.bool y)).drew.ownsMap Tryd.prog 9 (plainElem Tryd.prog 3) (w1.heap.size + 1 + 1) (k + 1) D ∧ NamesIn D ((bss ss).take (k + 1))) ∧ ((bss ss).take (k + 1)).Nodup ∧
            St (w3.setCell ⟨w1.heap.size, k, none⟩ (.bool y)).drew (w1.heap.size + 1 + 1) w w.heap.size w1.heap.size (w1.heap.size + 1) p.last RA PA p.rs.length rc p.ps.length pc ss.length (outTo (bss ss) p.pol (k + 1)) from by
          intro y hy
          obtain ⟨hn1, hn2⟩ := nodup_snoc hlt HND.out HIN.out
          refine ⟨⟨D.put (.string ss[k].data.toList) (.lit (.int .i64 1)), ?_, by rw [hn2]; exact HD.out.put _⟩, hn1, ?_⟩
          · obtain ⟨es, clock, q1, q2, q3, q4⟩ := HO2.out
            have hlt2 : w1.heap.size + 1 + 1 < w2.heap.size := (Array.getElem?_eq_some_iff.1 q1).1
            refine ⟨es, clock, ?_, q2, q3, q4⟩
            have h1 : w3.heap[w1.heap.size + 1 + 1]? = _ := (HB3.out.block _ hlt2).trans q1
            exact (Below.heap_setCell w3 _ _ _ (by simp only; omega)).trans h1
          · have hs' := HSt3.out.store k y
            have e : outTo (bss ss) p.pol (k + 1) = (outTo (bss ss) p.pol k).set k y := by
              rw [outTo_step _ _ _ (by rw [bss_len]; exact hlt), bss_get ss k hlt, hy]
            rw [e]
            exact hs'.below (Below.refl _ _).drew)
        cases h
        · refine wp_region_still_tail 11 (by kernel_rfl) (by kernel_rfl) ?_
          simp only [List.take_succ_cons, List.take_zero, List.drop_succ_cons, List.drop_zero]
          change wpStill _ _ w3.drew _ _ _
          still_step
          still_step
          still_step
          still_step
          still_step
          still_step
          still_step
          still_step
          still_step
          still_step
          still_step
          refine wpStill_nil ?_
          change wpList _ _ _ _ _ w3.drew
          go_wp2
          go_roundw
          case rel =>
            obtain ⟨r1, r2, r3⟩ := FIN.out true (by rw [HH.out]; rfl)
            exact ⟨k + 1, by omega, by go_num, r1, r2, r3⟩
          case measure => simp [intOf]; omega
        · generalize hcb : (bss p.ps).contains ss[k].data.toList = cb at HC
          have HCB := hide hcb
          clear hcb
          refine wp_region_still_tail 11 (by kernel_rfl) (by kernel_rfl) ?_
          simp only [List.take_succ_cons, List.take_zero, List.drop_succ_cons, List.drop_zero]
          change wpStill _ _ w3.drew _ _ _
          still_step
          still_step
          still_step
          still_step
          still_step
          still_step
          still_step
          still_step
          still_call (HC.out _ HPin.out)
          still_step
          still_step
          refine wpStill_nil ?_
          change wpList _ _ _ _ _ w3.drew
          go_wp2
          go_roundw
          case rel =>
            obtain ⟨r1, r2, r3⟩ := FIN.out cb (by rw [HH.out]; exact HCB.out.symm)
            exact ⟨k + 1, by omega, by go_num, r1, r2, r3⟩
          case measure => simp [intOf]; omega
    · obtain rfl : k = ss.length := by omega
      have hnod : (bss ss).Nodup := by have := HND.out; rwa [List.take_of_length_le (by rw [bss_len]; omega)] at this
      have hstE : St wr (w1.heap.size + 1 + 1) w w.heap.size w1.heap.size (w1.heap.size + 1) p.last RA PA p.rs.length rc p.ps.length pc ss.length (Pl.base (bss ss) p.pol) := by
        have h1 := outTo_end (bss ss) p.pol
        rw [bss_len] at h1
        have h2 := HSt.out
        rwa [h1] at h2
      have HNod := hide hnod
      have HStE := hide hstE
      have HNw := hide (newest_any A cap ss wr ((HMem.out.below HSt.out.bel).mono HSt.out.bel.size) (by omega) HS.out)
      clear hnod hstE HO HD HND HSt
      go_wp2_with (go_at_call 19; refine HNw.out.mono ?_; rintro e w4 ⟨A4, cap4, d, rfl, hb4, hm4, hd1, hd2, hsd, hfr⟩; have HB4 := hide hb4; have HM4 := hide hm4; have HSd := hide hsd; have HFr := hide hfr; have hst4 := HStE.out.below (hb4.mono HStE.out.o5); have HSt4 := hide hst4; have cRl := hst4.pol.cell 1; clear hb4 hm4 hsd hst4 hfr)
      refine wp_loop (fun a wx => ∃ (k : Nat) (Ds : List Nat) (u0 u1 u2 u4 u5 u7 u8 u9 u10 u11 u13 u14 u15 u16 u17 u18 u19 u20 u21 u22 u23 u24 u25 u26 u27 u28 u29 u30 u31 u32 u33 u34 u35 u36 u37 u38 u39 u40 u41 u42 u43 u44 u45 u46 u47 u48 u49 u50 u51 u52 u53 u54 u55 u56 u57 u58 u59 u60 u61 u62 u63 u66 u67 u68 u69 u70 u71 u72 u73 u74 u75 u76 u77 u78 u79 u80 u81 u82 u83 u84 u85 u86 u87 u88 u89 u90 u91 u92 u93 u94 u95 u96 u97 u98 u99 u100 u101 u102 u103 : Value), a = { tmps := #[u0, u1, u2, .pointer (some ⟨w.heap.size, 0, none⟩), u4, u5, .pointer (some ⟨w1.heap.size + 1, 0, none⟩), u7, u8, u9, u10, u11, .slice A4 d.length cap4, u13, u14, u15, u16, u17, u18, u19, u20, u21, u22, u23, u24, u25, u26, u27, u28, u29, u30, u31, u32, u33, u34, u35, u36, u37, u38, u39, u40, u41, u42, u43, u44, u45, u46, u47, u48, u49, u50, u51, u52, u53, u54, u55, u56, u57, u58, u59, u60, u61, u62, u63, .slice RA p.rs.length rc, .int .i64 p.rs.length, u66, u67, u68, u69, u70, u71, u72, u73, u74, u75, u76, u77, u78, u79, u80, u81, u82, u83, u84, u85, u86, u87, u88, u89, u90, u91, u92, u93, u94, u95, u96, u97, u98, u99, u100, u101, u102, u103], defers := marks Ds } ∧ u66 = .int .i64 (k : Nat) ∧ k ≤ p.rs.length ∧
          RuleSt w4 A4 d Ds wx ∧ St wx w4.heap.size w w.heap.size w1.heap.size (w1.heap.size + 1) p.last RA PA p.rs.length rc p.ps.length pc ss.length (markTo (bss ss) p.pol d k))
        (fun a _ => p.rs.length - (intOf (a.tmps.getD 66 undef)).toNat) ?start ?round
      case start =>
        refine ⟨0, [], _, _, _, _, _, _, _, _, _, _, _, _, _, _, _, _, _, _, _, _, _, _, _, _, _, _, _, _, _, _, _, _, _, _, _, _, _, _, _, _, _, _, _, _, _, _, _, _, _, _, _, _, _, _, _, _, _, _, _, _, _, _, _, _, _, _, _, _, _, _, _, _, _, _, _, _, _, _, _, _, _, _, _, _, _, _, _, _, _, _, _, _, _, _, _, _, _, _, _, rfl, rfl, Nat.zero_le _, ⟨HM4.out, Marked.nil _ _, Nat.le_refl _⟩, ?_⟩
        have h := HStE.out.below (HB4.out.mono HStE.out.o5)
        have : markTo (bss ss) p.pol d 0 = Pl.base (bss ss) p.pol := rfl
        rw [this]
        exact ⟨h.pol, h.row, h.out, h.bel, h.o1, h.o2, h.o3, Nat.lt_of_lt_of_le h.o4 (Nat.le_trans HStE.out.o5 HB4.out.size), Nat.le_refl _⟩
      case round =>
        intro a wx hI
        obtain ⟨k, hI⟩ := hI
        obtain ⟨Ds, hI⟩ := hI
        obtain ⟨u0, hI⟩ := hI
        obtain ⟨u1, hI⟩ := hI
        obtain ⟨u2, hI⟩ := hI
        obtain ⟨u4, hI⟩ := hI
        obtain ⟨u5, hI⟩ := hI
        obtain ⟨u7, hI⟩ := hI
        obtain ⟨u8, hI⟩ := hI
        obtain ⟨u9, hI⟩ := hI
        obtain ⟨u10, hI⟩ := hI
        obtain ⟨u11, hI⟩ := hI
        obtain ⟨u13, hI⟩ := hI
        obtain ⟨u14, hI⟩ := hI
        obtain ⟨u15, hI⟩ := hI
        obtain ⟨u16, hI⟩ := hI
        obtain ⟨u17, hI⟩ := hI
        obtain ⟨u18, hI⟩ := hI
        obtain ⟨u19, hI⟩ := hI
        obtain ⟨u20, hI⟩ := hI
        obtain ⟨u21, hI⟩ := hI
        obtain ⟨u22, hI⟩ := hI
        obtain ⟨u23, hI⟩ := hI
        obtain ⟨u24, hI⟩ := hI
        obtain ⟨u25, hI⟩ := hI
        obtain ⟨u26, hI⟩ := hI
        obtain ⟨u27, hI⟩ := hI
        obtain ⟨u28, hI⟩ := hI
        obtain ⟨u29, hI⟩ := hI
        obtain ⟨u30, hI⟩ := hI
        obtain ⟨u31, hI⟩ := hI
        obtain ⟨u32, hI⟩ := hI
        obtain ⟨u33, hI⟩ := hI
        obtain ⟨u34, hI⟩ := hI
        obtain ⟨u35, hI⟩ := hI
        obtain ⟨u36, hI⟩ := hI
        obtain ⟨u37, hI⟩ := hI
        obtain ⟨u38, hI⟩ := hI
        obtain ⟨u39, hI⟩ := hI
        obtain ⟨u40, hI⟩ := hI
        obtain ⟨u41, hI⟩ := hI
        obtain ⟨u42, hI⟩ := hI
        obtain ⟨u43, hI⟩ := hI
        obtain ⟨u44, hI⟩ := hI
        obtain ⟨u45, hI⟩ := hI
        obtain ⟨u46, hI⟩ := hI
        obtain ⟨u47, hI⟩ := hI
        obtain ⟨u48, hI⟩ := hI
        obtain ⟨u49, hI⟩ := hI
        obtain ⟨u50, hI⟩ := hI
        obtain ⟨u51, hI⟩ := hI
        obtain ⟨u52, hI⟩ := hI
        obtain ⟨u53, hI⟩ := hI
        obtain ⟨u54, hI⟩ := hI
        obtain ⟨u55, hI⟩ := hI
        obtain ⟨u56, hI⟩ := hI
        obtain ⟨u57, hI⟩ := hI
        obtain ⟨u58, hI⟩ := hI
        obtain ⟨u59, hI⟩ := hI
        obtain ⟨u60, hI⟩ := hI
        obtain ⟨u61, hI⟩ := hI
        obtain ⟨u62, hI⟩ := hI
        obtain ⟨u63, hI⟩ := hI
        obtain ⟨u66, hI⟩ := hI
        obtain ⟨u67, hI⟩ := hI
        obtain ⟨u68, hI⟩ := hI
        obtain ⟨u69, hI⟩ := hI
        obtain ⟨u70, hI⟩ := hI
        obtain ⟨u71, hI⟩ := hI
        obtain ⟨u72, hI⟩ := hI
        obtain ⟨u73, hI⟩ := hI
        obtain ⟨u74, hI⟩ := hI
        obtain ⟨u75, hI⟩ := hI
        obtain ⟨u76, hI⟩ := hI
        obtain ⟨u77, hI⟩ := hI
        obtain ⟨u78, hI⟩ := hI
        obtain ⟨u79, hI⟩ := hI
        obtain ⟨u80, hI⟩ := hI
        obtain ⟨u81, hI⟩ := hI
        obtain ⟨u82, hI⟩ := hI
        obtain ⟨u83, hI⟩ := hI
        obtain ⟨u84, hI⟩ := hI
        obtain ⟨u85, hI⟩ := hI
        obtain ⟨u86, hI⟩ := hI
        obtain ⟨u87, hI⟩ := hI
        obtain ⟨u88, hI⟩ := hI
        obtain ⟨u89, hI⟩ := hI
        obtain ⟨u90, hI⟩ := hI
        obtain ⟨u91, hI⟩ := hI
        obtain ⟨u92, hI⟩ := hI
        obtain ⟨u93, hI⟩ := hI
        obtain ⟨u94, hI⟩ := hI
        obtain ⟨u95, hI⟩ := hI
        obtain ⟨u96, hI⟩ := hI
        obtain ⟨u97, hI⟩ := hI
        obtain ⟨u98, hI⟩ := hI
        obtain ⟨u99, hI⟩ := hI
        obtain ⟨u100, hI⟩ := hI
        obtain ⟨u101, hI⟩ := hI
        obtain ⟨u102, hI⟩ := hI
        obtain ⟨u103, hI⟩ := hI
        obtain ⟨ha, h66, hk, hrs, hst⟩ := hI
        subst h66
        subst ha
        try dsimp only
        have HRs := hide hrs
        have HSx := hide hst
        have hszx := hrs.size
        have cRx := hst.pol.cell 1
        clear hrs hst
        have hk8 : p.rs.length ≤ 8 := (Pl.may_parts HMay.out).2.1
        by_cases hlt : k < p.rs.length
        · obtain ⟨b, off, rfl, hb, c1, c2⟩ := (HP.out.rules.below HSx.out.bel).rule k hlt
          have hb' : b < wx.heap.size := by have := HSx.out.bel.size; omega
          have hspk := HSP.out _ (List.getElem_mem hlt)
          have hmk' := (Pl.may_parts HMay.out).2.2.2.1 p.rs[k] (List.getElem_mem hlt)
          generalize hr : p.rs[k] = r at c1 c2 hspk hmk'
          obtain ⟨sp, c⟩ := r
          dsimp only at c1 c2 hspk hmk'
          obtain ⟨hs0, hc0, hc64⟩ := hmk'
          have hsp0 : 0 < sp := by omega
          have HR := hide hr
          clear hr hs0
          go_wp2_with (go_at_call 20; refine (periods_any _ _ _ _ _).mono ?_; rintro e w' ⟨rfl, rfl⟩)
          generalize hwp : (((wx.alloc (.cells #[.int .u32 sp, .int .i64 c] 45)).alloc (.cells #[.int .i64 c] 3)).alloc (.cells #[.slice A4 d.length cap4] 51)).alloc (.cells #[.int .u32 sp] 28) = wp
          obtain ⟨hbp, hzp, wL, wBl, wBs⟩ := four_boxes wx [.int .u32 sp, .int .i64 c] [.int .i64 c] [.slice A4 d.length cap4] [.int .u32 sp] _ _ _ _ wp hwp
          have HBP := hide hbp
          have HZP := hide hzp
          have WL := hide wL
          have WBl := hide wBl
          have WBs := hide wBs
          clear hwp hbp wL wBl wBs c1 c2 hzp
          have eg : ∀ args W, (callFunc 39 args).run Tryd.prog W = .ok (.enter 39 args) W := enters_of Tryd.func39 (by kernel_rfl) rfl
          have o3 := HSx.out.o3
          have o4 := HSx.out.o4
          have o5 := HSx.out.o5
          have FIN := hide (show ∀ (W : World) (pre : List One), wp.heap.size + 2 ≤ W.heap.size → W.heap[wp.heap.size]? = some (.deferred (some [])) → KeptX (fun j => j = w1.heap.size ∨ j = wx.heap.size + 1) wp W → idx pre = (idx (perD sp [] d)).take c.toNat →
              St W w4.heap.size w w.heap.size w1.heap.size (w1.heap.size + 1) p.last (some ⟨b, off, none⟩) PA p.rs.length rc p.ps.length pc ss.length (Pl.mark (markTo (bss ss) p.pol d k) (idx pre)) →
              k + 1 ≤ p.rs.length ∧ RuleSt w4 A4 d (wp.heap.size :: Ds) W ∧ St W w4.heap.size w w.heap.size w1.heap.size (w1.heap.size + 1) p.last (some ⟨b, off, none⟩) PA p.rs.length rc p.ps.length pc ss.length (markTo (bss ss) p.pol d (k + 1)) from by
            intro W pre hz hD hkp hpre hs
            have hz' := HZP.out
            have hR : w1.heap.size < w4.heap.size := by omega
            refine ⟨by omega, ⟨?_, ⟨?_, ?_, ?_⟩, by omega⟩, ?_⟩
            · intro hd0
              obtain ⟨b2, off2, hA2, hb2, hcc⟩ := (HRs.out.mem.below (HBP.out.mono hszx)) hd0
              have h1 := HFr.out b2 off2 hA2
              have h2 : w1.heap.size < wr.heap.size := by have := HStE.out.o3; have := HStE.out.o4; have := HStE.out.o5; omega
              exact ⟨b2, off2, hA2, hb2, fun i hi => (hkp.cell (by omega) (by omega) _).trans (hcc i hi)⟩
            · refine List.nodup_cons.2 ⟨fun hm => ?_, HRs.out.marks.nodup⟩
              have := (Array.getElem?_eq_some_iff.1 (HRs.out.marks.at_ _ hm)).1
              omega
            · intro D hD2
              rcases List.mem_cons.1 hD2 with rfl | hD2
              · omega
              · exact HRs.out.marks.low D hD2
            · intro D hD2
              rcases List.mem_cons.1 hD2 with rfl | hD2
              · exact hD
              · have h1 := HRs.out.marks.at_ D hD2
                have h2 := HRs.out.marks.low D hD2
                have h3 := (Array.getElem?_eq_some_iff.1 h1).1
                exact ((hkp.2 D (by omega) (by omega)).trans (HBP.out.block D h3)).trans h1
            · rw [markTo_succ (bss ss) p d k hlt sp c HR.out, ← hpre]
              exact hs)
          refine (wpIn_wide (n := 5)).1 (range_law (n := 5) rfl eg (fun x : One => #[.agg #[.int .i64 x.i, .string x.nm, .int .u32 x.at_]]) (fun _ => rfl) (perD sp [] d) (fun k => k = w1.heap.size ∨ k = wx.heap.size + 1) ?hEx ?hseq
            (fun pre W => RoundSt wp w1.heap.size (wx.heap.size + 1) 3 (markTo (bss ss) p.pol d k) c pre.length W (fun bl W => St W w4.heap.size w w.heap.size w1.heap.size (w1.heap.size + 1) p.last (some ⟨b, off, none⟩) PA p.rs.length rc p.ps.length pc ss.length bl) pre)
            (fun cd pre W => cd = .exit 5 ∧ ∃ pre' x, pre = pre' ++ [x] ∧ (pre'.length : Int) = c ∧ RoundSt wp w1.heap.size (wx.heap.size + 1) 3 (markTo (bss ss) p.pol d k) c pre'.length W (fun bl W => St W w4.heap.size w w.heap.size w1.heap.size (w1.heap.size + 1) p.last (some ⟨b, off, none⟩) PA p.rs.length rc p.ps.length pc ss.length bl) pre')
            ?hI ?hIx ?h0
            (fun x a' W => ∃ (Bx : Nat) (v0 v1 v2 v3 v4 v5 v7 v8 v9 v10 v11 v12 v13 v14 v17 v18 v19 v20 v21 v22 v23 v24 v25 v26 v27 v28 v29 v30 v31 v32 v33 v34 v35 v36 v37 v38 v39 v40 v41 v42 v43 v44 v45 v46 v47 v48 v49 v50 v51 v52 v53 v54 v55 v56 v57 v58 v59 v60 v61 v62 v63 v64 v65 v66 v67 v68 v69 v70 v71 v72 v73 v74 v75 v76 v77 v78 v79 v80 v81 v82 v83 v84 v85 v86 v87 v88 v89 v90 v91 v92 v93 v94 v95 v96 v97 v98 v99 v100 v101 v102 v103 : Value), a' = { tmps := #[v0, v1, v2, v3, v4, v5, .pointer (some ⟨w1.heap.size + 1, 0, none⟩), v7, v8, v9, v10, v11, v12, v13, v14, .pointer (some ⟨wx.heap.size + 1, 0, none⟩), .pointer (some ⟨Bx, 0, none⟩), v17, v18, v19, v20, v21, v22, v23, v24, v25, v26, v27, v28, v29, v30, v31, v32, v33, v34, v35, v36, v37, v38, v39, v40, v41, v42, v43, v44, v45, v46, v47, v48, v49, v50, v51, v52, v53, v54, v55, v56, v57, v58, v59, v60, v61, v62, v63, v64, v65, v66, v67, v68, v69, v70, v71, v72, v73, v74, v75, v76, v77, v78, v79, v80, v81, v82, v83, v84, v85, v86, v87, v88, v89, v90, v91, v92, v93, v94, v95, v96, v97, v98, v99, v100, v101, v102, v103], defers := [] } ∧ wp.heap.size + 2 ≤ Bx ∧ Whole W Bx 57 [.int .i64 x.i, .string x.nm, .int .u32 x.at_])
            ?hAx ?hassign ?hbody ?hdone ?hstop)
          case hEx => rintro j (rfl | rfl) <;> (have := HZP.out; omega)
          case hseq =>
            intro J Jx W hbW hzW hJ hJx hY hj0
            have hz' := HZP.out
            have hm' : Mem W wp.heap.size A4 (ones d) := ((HRs.out.mem.below ((HBP.out).mono hszx)).mono (by omega)).below hbW
            refine iter_in (5 - 1) _ (wx.heap.size + 1 + 1) (wx.heap.size + 1 + 1 + 1) A4 d cap4 sp _ J Jx W (by omega) (by omega) ((hbW.cell (p := ⟨wx.heap.size + 1 + 1, 0, none⟩) (show wx.heap.size + 1 + 1 < wp.heap.size by omega)).trans (WBl.out.cell 0)) ((hbW.cell (p := ⟨wx.heap.size + 1 + 1 + 1, 0, none⟩) (show wx.heap.size + 1 + 1 + 1 < wp.heap.size by omega)).trans (WBs.out.cell 0)) (hm'.mono (by omega)) (by omega)
              (fun x hx => by rw [(mem_ones HSd.out hx).2.2.2]; exact st_lt _) hsp0 hspk.2 (by omega) (by omega) ?_ (by intro j hj; omega) hJ hJx hY hj0
            intro hd0 b' off' hA
            have h1 := HFr.out b' off' hA
            have h2 : w1.heap.size < wr.heap.size := by have := HStE.out.o3; have := HStE.out.o4; have := HStE.out.o5; omega
            obtain ⟨b2, off2, hA2, hb2, _⟩ := HRs.out.mem hd0
            rw [hA] at hA2
            injection hA2 with hA2
            injection hA2 with hA2 _
            omega
          case hI =>
            intro pre W W' hr hb
            have hz' := HZP.out
            exact hr.below hb (by omega) fun bl hs => hs.below (hb.mono (by omega))
          case hIx =>
            rintro cd pre W W' ⟨h1, pre', x, h2, h3, h4⟩ hb
            have hz' := HZP.out
            exact ⟨h1, pre', x, h2, h3, h4.below hb (by omega) fun bl hs => hs.below (hb.mono (by omega))⟩
          case h0 =>
            refine ⟨by simp; omega, HSx.out.below (HBP.out.mono hszx), ?_, KeptX.refl _ _⟩
            have e : c - ((([] : List One).length : Nat) : Int) = c := by simp
            rw [e]
            exact WL.out
          case hAx =>
            rintro x a' W W' ⟨Bx, hax⟩ hW
            refine ⟨Bx, ?_⟩
            obtain ⟨v0, hax⟩ := hax
            obtain ⟨v1, hax⟩ := hax
            obtain ⟨v2, hax⟩ := hax
            obtain ⟨v3, hax⟩ := hax
            obtain ⟨v4, hax⟩ := hax
            obtain ⟨v5, hax⟩ := hax
            obtain ⟨v7, hax⟩ := hax
            obtain ⟨v8, hax⟩ := hax
            obtain ⟨v9, hax⟩ := hax
            obtain ⟨v10, hax⟩ := hax
            obtain ⟨v11, hax⟩ := hax
            obtain ⟨v12, hax⟩ := hax
            obtain ⟨v13, hax⟩ := hax
            obtain ⟨v14, hax⟩ := hax
            obtain ⟨v17, hax⟩ := hax
            obtain ⟨v18, hax⟩ := hax
            obtain ⟨v19, hax⟩ := hax
            obtain ⟨v20, hax⟩ := hax
            obtain ⟨v21, hax⟩ := hax
            obtain ⟨v22, hax⟩ := hax
            obtain ⟨v23, hax⟩ := hax
            obtain ⟨v24, hax⟩ := hax
            obtain ⟨v25, hax⟩ := hax
            obtain ⟨v26, hax⟩ := hax
            obtain ⟨v27, hax⟩ := hax
            obtain ⟨v28, hax⟩ := hax
            obtain ⟨v29, hax⟩ := hax
            obtain ⟨v30, hax⟩ := hax
            obtain ⟨v31, hax⟩ := hax
            obtain ⟨v32, hax⟩ := hax
            obtain ⟨v33, hax⟩ := hax
            obtain ⟨v34, hax⟩ := hax
            obtain ⟨v35, hax⟩ := hax
            obtain ⟨v36, hax⟩ := hax
            obtain ⟨v37, hax⟩ := hax
            obtain ⟨v38, hax⟩ := hax
            obtain ⟨v39, hax⟩ := hax
            obtain ⟨v40, hax⟩ := hax
            obtain ⟨v41, hax⟩ := hax
            obtain ⟨v42, hax⟩ := hax
            obtain ⟨v43, hax⟩ := hax
            obtain ⟨v44, hax⟩ := hax
            obtain ⟨v45, hax⟩ := hax
            obtain ⟨v46, hax⟩ := hax
            obtain ⟨v47, hax⟩ := hax
            obtain ⟨v48, hax⟩ := hax
            obtain ⟨v49, hax⟩ := hax
            obtain ⟨v50, hax⟩ := hax
            obtain ⟨v51, hax⟩ := hax
            obtain ⟨v52, hax⟩ := hax
            obtain ⟨v53, hax⟩ := hax
            obtain ⟨v54, hax⟩ := hax
            obtain ⟨v55, hax⟩ := hax
            obtain ⟨v56, hax⟩ := hax
            obtain ⟨v57, hax⟩ := hax
            obtain ⟨v58, hax⟩ := hax
            obtain ⟨v59, hax⟩ := hax
            obtain ⟨v60, hax⟩ := hax
            obtain ⟨v61, hax⟩ := hax
            obtain ⟨v62, hax⟩ := hax
            obtain ⟨v63, hax⟩ := hax
            obtain ⟨v64, hax⟩ := hax
            obtain ⟨v65, hax⟩ := hax
            obtain ⟨v66, hax⟩ := hax
            obtain ⟨v67, hax⟩ := hax
            obtain ⟨v68, hax⟩ := hax
            obtain ⟨v69, hax⟩ := hax
            obtain ⟨v70, hax⟩ := hax
            obtain ⟨v71, hax⟩ := hax
            obtain ⟨v72, hax⟩ := hax
            obtain ⟨v73, hax⟩ := hax
            obtain ⟨v74, hax⟩ := hax
            obtain ⟨v75, hax⟩ := hax
            obtain ⟨v76, hax⟩ := hax
            obtain ⟨v77, hax⟩ := hax
            obtain ⟨v78, hax⟩ := hax
            obtain ⟨v79, hax⟩ := hax
            obtain ⟨v80, hax⟩ := hax
            obtain ⟨v81, hax⟩ := hax
            obtain ⟨v82, hax⟩ := hax
            obtain ⟨v83, hax⟩ := hax
            obtain ⟨v84, hax⟩ := hax
            obtain ⟨v85, hax⟩ := hax
            obtain ⟨v86, hax⟩ := hax
            obtain ⟨v87, hax⟩ := hax
            obtain ⟨v88, hax⟩ := hax
            obtain ⟨v89, hax⟩ := hax
            obtain ⟨v90, hax⟩ := hax
            obtain ⟨v91, hax⟩ := hax
            obtain ⟨v92, hax⟩ := hax
            obtain ⟨v93, hax⟩ := hax
            obtain ⟨v94, hax⟩ := hax
            obtain ⟨v95, hax⟩ := hax
            obtain ⟨v96, hax⟩ := hax
            obtain ⟨v97, hax⟩ := hax
            obtain ⟨v98, hax⟩ := hax
            obtain ⟨v99, hax⟩ := hax
            obtain ⟨v100, hax⟩ := hax
            obtain ⟨v101, hax⟩ := hax
            obtain ⟨v102, hax⟩ := hax
            obtain ⟨v103, hax⟩ := hax
            obtain ⟨h1, h2, h3⟩ := hax
            exact ⟨v0, v1, v2, v3, v4, v5, v7, v8, v9, v10, v11, v12, v13, v14, v17, v18, v19, v20, v21, v22, v23, v24, v25, v26, v27, v28, v29, v30, v31, v32, v33, v34, v35, v36, v37, v38, v39, v40, v41, v42, v43, v44, v45, v46, v47, v48, v49, v50, v51, v52, v53, v54, v55, v56, v57, v58, v59, v60, v61, v62, v63, v64, v65, v66, v67, v68, v69, v70, v71, v72, v73, v74, v75, v76, v77, v78, v79, v80, v81, v82, v83, v84, v85, v86, v87, v88, v89, v90, v91, v92, v93, v94, v95, v96, v97, v98, v99, v100, v101, v102, v103, h1, h2, h3.of_block (hW Bx (by omega))⟩
          case hassign =>
            intro pre x W K hi hz hK
            gi_wp2
            exact hK _ _ (KeptX.alloc _ _ _) ⟨W.heap.size, _, _, _, _, _, _, _, _, _, _, _, _, _, _, _, _, _, _, _, _, _, _, _, _, _, _, _, _, _, _, _, _, _, _, _, _, _, _, _, _, _, _, _, _, _, _, _, _, _, _, _, _, _, _, _, _, _, _, _, _, _, _, _, _, _, _, _, _, _, _, _, _, _, _, _, _, _, _, _, _, _, _, _, _, _, _, _, _, _, _, _, _, _, _, _, _, _, _, _, _, _, rfl, hz, Whole.new W _ _⟩
          case hbody =>
            rintro pre x a' W hz hi ⟨Bx, hax⟩ hpre
            obtain ⟨v0, hax⟩ := hax
            obtain ⟨v1, hax⟩ := hax
            obtain ⟨v2, hax⟩ := hax
            obtain ⟨v3, hax⟩ := hax
            obtain ⟨v4, hax⟩ := hax
            obtain ⟨v5, hax⟩ := hax
            obtain ⟨v7, hax⟩ := hax
            obtain ⟨v8, hax⟩ := hax
            obtain ⟨v9, hax⟩ := hax
            obtain ⟨v10, hax⟩ := hax
            obtain ⟨v11, hax⟩ := hax
            obtain ⟨v12, hax⟩ := hax
            obtain ⟨v13, hax⟩ := hax
            obtain ⟨v14, hax⟩ := hax
            obtain ⟨v17, hax⟩ := hax
            obtain ⟨v18, hax⟩ := hax
            obtain ⟨v19, hax⟩ := hax
            obtain ⟨v20, hax⟩ := hax
            obtain ⟨v21, hax⟩ := hax
            obtain ⟨v22, hax⟩ := hax
            obtain ⟨v23, hax⟩ := hax
            obtain ⟨v24, hax⟩ := hax
            obtain ⟨v25, hax⟩ := hax
            obtain ⟨v26, hax⟩ := hax
            obtain ⟨v27, hax⟩ := hax
            obtain ⟨v28, hax⟩ := hax
            obtain ⟨v29, hax⟩ := hax
            obtain ⟨v30, hax⟩ := hax
            obtain ⟨v31, hax⟩ := hax
            obtain ⟨v32, hax⟩ := hax
            obtain ⟨v33, hax⟩ := hax
            obtain ⟨v34, hax⟩ := hax
            obtain ⟨v35, hax⟩ := hax
            obtain ⟨v36, hax⟩ := hax
            obtain ⟨v37, hax⟩ := hax
            obtain ⟨v38, hax⟩ := hax
            obtain ⟨v39, hax⟩ := hax
            obtain ⟨v40, hax⟩ := hax
            obtain ⟨v41, hax⟩ := hax
            obtain ⟨v42, hax⟩ := hax
            obtain ⟨v43, hax⟩ := hax
            obtain ⟨v44, hax⟩ := hax
            obtain ⟨v45, hax⟩ := hax
            obtain ⟨v46, hax⟩ := hax
            obtain ⟨v47, hax⟩ := hax
            obtain ⟨v48, hax⟩ := hax
            obtain ⟨v49, hax⟩ := hax
            obtain ⟨v50, hax⟩ := hax
            obtain ⟨v51, hax⟩ := hax
            obtain ⟨v52, hax⟩ := hax
            obtain ⟨v53, hax⟩ := hax
            obtain ⟨v54, hax⟩ := hax
            obtain ⟨v55, hax⟩ := hax
            obtain ⟨v56, hax⟩ := hax
            obtain ⟨v57, hax⟩ := hax
            obtain ⟨v58, hax⟩ := hax
            obtain ⟨v59, hax⟩ := hax
            obtain ⟨v60, hax⟩ := hax
            obtain ⟨v61, hax⟩ := hax
            obtain ⟨v62, hax⟩ := hax
            obtain ⟨v63, hax⟩ := hax
            obtain ⟨v64, hax⟩ := hax
            obtain ⟨v65, hax⟩ := hax
            obtain ⟨v66, hax⟩ := hax
            obtain ⟨v67, hax⟩ := hax
            obtain ⟨v68, hax⟩ := hax
            obtain ⟨v69, hax⟩ := hax
            obtain ⟨v70, hax⟩ := hax
            obtain ⟨v71, hax⟩ := hax
            obtain ⟨v72, hax⟩ := hax
            obtain ⟨v73, hax⟩ := hax
            obtain ⟨v74, hax⟩ := hax
            obtain ⟨v75, hax⟩ := hax
            obtain ⟨v76, hax⟩ := hax
            obtain ⟨v77, hax⟩ := hax
            obtain ⟨v78, hax⟩ := hax
            obtain ⟨v79, hax⟩ := hax
            obtain ⟨v80, hax⟩ := hax
            obtain ⟨v81, hax⟩ := hax
            obtain ⟨v82, hax⟩ := hax
            obtain ⟨v83, hax⟩ := hax
            obtain ⟨v84, hax⟩ := hax
            obtain ⟨v85, hax⟩ := hax
            obtain ⟨v86, hax⟩ := hax
            obtain ⟨v87, hax⟩ := hax
            obtain ⟨v88, hax⟩ := hax
            obtain ⟨v89, hax⟩ := hax
            obtain ⟨v90, hax⟩ := hax
            obtain ⟨v91, hax⟩ := hax
            obtain ⟨v92, hax⟩ := hax
            obtain ⟨v93, hax⟩ := hax
            obtain ⟨v94, hax⟩ := hax
            obtain ⟨v95, hax⟩ := hax
            obtain ⟨v96, hax⟩ := hax
            obtain ⟨v97, hax⟩ := hax
            obtain ⟨v98, hax⟩ := hax
            obtain ⟨v99, hax⟩ := hax
            obtain ⟨v100, hax⟩ := hax
            obtain ⟨v101, hax⟩ := hax
            obtain ⟨v102, hax⟩ := hax
            obtain ⟨v103, hax⟩ := hax
            obtain ⟨rfl, h2, wX⟩ := hax
            have hxd : x ∈ d := perD_sub sp d [] x (by obtain ⟨t, ht⟩ := hpre; rw [← ht]; simp)
            have hxi := (mem_ones HSd.out hxd).1
            have HI := hide hi
            have cL := hi.left.cell 0
            have fL := hi.left.frozen 0
            have cO := hi.st.out.cell 0
            have cX := wX.cell 0
            have hlm := hi.le
            have hblen : (Pl.mark (markTo (bss ss) p.pol d k) (idx pre)).length = ss.length := by rw [Pl.mark_length]; exact markTo_len ss p d k
            have cR : W.cell? ⟨w1.heap.size, x.i, none⟩ = some (.bool ((Pl.mark (markTo (bss ss) p.pol d k) (idx pre))[x.i]?.getD false)) := by
              rw [hi.st.row.cell x.i]
              simp [bools, hblen, hxi]
            have fR := hi.st.row.frozen x.i
            generalize hbb : (Pl.mark (markTo (bss ss) p.pol d k) (idx pre))[x.i]?.getD false = b0 at cR
            clear hbb hi
            have WX := hide wX
            clear wX
            have hz' := HZP.out
            have n1 : ¬ (wx.heap.size + 1 = Bx) := by omega
            have n2 : ¬ (wx.heap.size = w1.heap.size) := by omega
            have n3 : ¬ (wx.heap.size + 1 = w1.heap.size) := by omega
            have n4 : ¬ (w1.heap.size = wx.heap.size + 1) := by omega
            have n5 : ¬ (w1.heap.size = Bx) := by omega
            by_cases hc : (pre.length : Int) = c
            · have hb0 : (c - (pre.length : Int) == 0) = true := by simp; omega
              have HC := hide hc
              clear hc
              gi_wp2
              exact ⟨KeptX.refl _ _, rfl, pre, x, rfl, HC.out, HI.out⟩
            · have hb0 : (c - (pre.length : Int) == 0) = false := by simp; omega
              have HC := hide hc
              clear hc
              gi_wp2
              have hk2 : KeptX (fun k => k = w1.heap.size ∨ k = wx.heap.size + 1) W ((W.setCell ⟨wx.heap.size + 1, 0, none⟩ (.int .i64 (c - pre.length - 1))).setCell ⟨w1.heap.size, x.i, none⟩ (.bool true)) :=
                (KeptX.setCell _ _ _ _ (.inr rfl)).trans (KeptX.setCell _ _ _ _ (.inl rfl))
              refine ⟨hk2, ⟨?_, ?_, ?_, HI.out.kept.trans hk2⟩⟩
              · have := HC.out; rw [List.length_append]; simp; omega
              · have h1 := (HI.out.st.below ((Below.refl w4.heap.size W).setCell (p := ⟨wx.heap.size + 1, 0, none⟩) (by simp only; omega) (.int .i64 (c - pre.length - 1)))).store x.i true
                have e : Pl.mark (markTo (bss ss) p.pol d k) (idx (pre ++ [x])) = (Pl.mark (markTo (bss ss) p.pol d k) (idx pre)).set x.i true := by simp [Pl.mark, idx, List.foldl_append]
                rw [e]
                exact h1
              · have h1 := HI.out.left.set_ 0 (.int .i64 (c - pre.length - 1))
                have h2 := h1.of_block (Below.heap_setCell _ ⟨w1.heap.size, x.i, none⟩ (.bool true) _ n3)
                have e : c - (((pre ++ [x]).length : Nat) : Int) = c - pre.length - 1 := by rw [List.length_append]; simp; omega
                rw [e]
                exact h2
          case hdone =>
            intro W hz hi hD
            have HI := hide hi
            have HDf := hide hD
            clear hi hD
            try dsimp only
            simp only [Exit.inBlock, Exit.then]
            go_wp2
            obtain ⟨q1, q2, q3⟩ := FIN.out W (perD sp [] d) hz HDf.out HI.out.kept (by
              have := HI.out.le
              rw [List.take_of_length_le]
              simp only [idx, List.length_map]
              omega) HI.out.st
            refine ⟨⟨k + 1, wp.heap.size :: Ds, _, _, _, _, _, _, _, _, _, _, _, _, _, _, _, _, _, _, _, _, _, _, _, _, _, _, _, _, _, _, _, _, _, _, _, _, _, _, _, _, _, _, _, _, _, _, _, _, _, _, _, _, _, _, _, _, _, _, _, _, _, _, _, _, _, _, _, _, _, _, _, _, _, _, _, _, _, _, _, _, _, _, _, _, _, _, _, _, _, _, _, _, _, _, _, _, _, _, _, rfl, by go_num, q1, q2, q3⟩, ?_⟩
            simp [intOf]; omega
          case hstop =>
            rintro cd pre W hz hpre ⟨rfl, pre', x, rfl, hlen, hi⟩ hD
            have HI := hide hi
            have HDf := hide hD
            have HLen := hide hlen
            have HPre := hide hpre
            clear hi hD hlen hpre
            refine wpIn_wide.2 ?_
            try dsimp only
            go_wp2
            have hidx : idx pre' = (idx (perD sp [] d)).take c.toNat := by
              obtain ⟨t, ht⟩ := HPre.out
              have hl := HLen.out
              rw [← ht]
              simp only [idx, List.map_append, List.append_assoc]
              rw [List.take_append_of_le_length (by simp; omega), List.take_of_length_le (by simp; omega)]
            obtain ⟨q1, q2, q3⟩ := FIN.out W pre' hz HDf.out HI.out.kept hidx HI.out.st
            refine ⟨⟨k + 1, wp.heap.size :: Ds, _, _, _, _, _, _, _, _, _, _, _, _, _, _, _, _, _, _, _, _, _, _, _, _, _, _, _, _, _, _, _, _, _, _, _, _, _, _, _, _, _, _, _, _, _, _, _, _, _, _, _, _, _, _, _, _, _, _, _, _, _, _, _, _, _, _, _, _, _, _, _, _, _, _, _, _, _, _, _, _, _, _, _, _, _, _, _, _, _, _, _, _, _, _, _, _, _, _, _, rfl, by go_num, q1, q2, q3⟩, ?_⟩
            simp [intOf]; omega
        · obtain rfl : k = p.rs.length := by omega
          have cL := HSx.out.pol.cell 0
          have hlast := (Pl.may_parts HMay.out).1
          have hlast1 : 0 ≤ p.last := hlast.1
          have hlast2 : p.last ≤ 64 := hlast.2
          clear hlast
          obtain ⟨m, hm1⟩ : ∃ m : Nat, m = min d.length p.last.toNat := ⟨_, rfl⟩
          have hmin : min (d.length : Int) p.last = (m : Int) := by omega
          have hmd : m ≤ d.length := by omega
          have hm2 : (idx d).take p.last.toNat = (idx d).take m := by
            rw [hm1]
            by_cases hc : p.last.toNat ≤ d.length
            · rw [Nat.min_eq_right hc]
            · rw [Nat.min_eq_left (by omega), List.take_of_length_le (by simp [idx]; omega), List.take_of_length_le (by simp [idx])]
          have HM2 := hide hm2
          clear hm1 hm2 cRx
          generalize hlst : p.last = last at *
          have HLast := hide hlst
          clear hlst
          have HRo := hide (show w1.heap.size + 1 + 1 ≤ wr.heap.size from HStE.out.o5)
          have hR4 : w1.heap.size + 1 < w4.heap.size := HSx.out.o4
          go_wp2_with fail
          go_loopw [94] (fun i wz => ∃ j : Nat, j ≤ m ∧ i = .int .i64 j ∧ RuleSt w4 A4 d Ds wz ∧ St wz w4.heap.size w w.heap.size w1.heap.size (w1.heap.size + 1) last RA PA p.rs.length rc p.ps.length pc ss.length (Pl.mark (markTo (bss ss) p.pol d p.rs.length) ((idx d).take j))) (fun i _ => m - (intOf i).toNat)
          case atStart => exact ⟨0, Nat.zero_le _, rfl, HRs.out, HSx.out⟩
          case round =>
            obtain ⟨j, hj, rfl, hr, hs⟩ := hrel
            have HRz := hide hr
            have HSz := hide hs
            have hszz := hr.size
            by_cases hjl : j < m
            · obtain ⟨b2, off2, rfl, hb2, z0, z1, z2⟩ := hr.mem.one j (by omega)
              have hb2' : b2 < wr.heap.size := by omega
              have hxd : d[j] ∈ d := List.getElem_mem _
              have hxi := (mem_ones HSd.out hxd).1
              have htj : Pl.mark (markTo (bss ss) p.pol d p.rs.length) ((idx d).take (j + 1)) = (Pl.mark (markTo (bss ss) p.pol d p.rs.length) ((idx d).take j)).set d[j].i true := by
                rw [List.take_succ_eq_append_getElem (by simp [idx]; omega)]
                simp [Pl.mark, idx, List.foldl_append]
              have HTj := hide htj
              have hblen : (Pl.mark (markTo (bss ss) p.pol d p.rs.length) ((idx d).take j)).length = ss.length := by rw [Pl.mark_length]; exact markTo_len ss p d _
              have cO := hs.out.cell 0
              have cR : wr.cell? ⟨w1.heap.size, d[j].i, none⟩ = some (.bool ((Pl.mark (markTo (bss ss) p.pol d p.rs.length) ((idx d).take j))[d[j].i]?.getD false)) := by
                rw [hs.row.cell]
                simp [bools, hblen, hxi]
              have fR := hs.row.frozen d[j].i
              have hRne := hide (show ∀ b off, (some (⟨b2, off2, none⟩ : Addr)) = some ⟨b, off, none⟩ → b ≠ w1.heap.size from fun b off e => by have h1 := HFr.out b off e; have h2 := HRo.out; omega)
              generalize hbb : (Pl.mark (markTo (bss ss) p.pol d p.rs.length) ((idx d).take j))[d[j].i]?.getD false = b0 at cR
              generalize hx : d[j] = x at z0 z1 z2 hxi cR fR
              have HX := hide hx
              clear hr hs htj hbb hblen hx hxd
              obtain ⟨xi, xn, xa⟩ := x
              dsimp only at z0 z1 z2 hxi cR fR
              have hRw : w1.heap.size < wr.heap.size := by omega
              have hOw : w1.heap.size + 1 < wr.heap.size := by omega
              go_wp2
              go_roundw
              case rel =>
                refine ⟨j + 1, by omega, by go_num, (HRz.out.store (by omega) hRne.out _ _).below ((Below.refl _ _).alloc (Nat.le_refl _) _), ?_⟩
                have h1 := (HSz.out.store xi true).below ((Below.refl w4.heap.size _).alloc (by simpa [World.setCell] using hszz) (.cells #[.int .i64 xi, .string xn, .int .u32 xa] 57))
                rw [HTj.out, HX.out]
                exact h1
              case measure => simp [intOf]; omega
            · obtain rfl : j = m := by omega
              have cO := hs.out.cell 0
              clear hr hs
              go_wp2
              refine leave_marks Ds _ HRz.out.marks hszz fun w' hb' _ => ⟨_, results_tmp2 rfl _ _ _, ?_⟩
              obtain ⟨he, hke⟩ := out_eq HSd.out HNod.out HMay.out (fun r hr => (HSP.out r hr).1) hl
              have hs' := HSz.out.below hb'
              have hlen : (Pl.keep (bss ss) p.pol).length = ss.length := by rw [hke, Pl.mark_length, markTo_len]
              refine ⟨some ⟨w1.heap.size, 0, none⟩, ss.length, by rw [hlen, he]; rfl, hs'.bel, fun _ => ⟨w1.heap.size, 0, rfl, ?_, fun i hi => ?_⟩⟩
              · have := hs'.o3; have := hs'.o4; have := hs'.o5; omega
              · rw [Nat.zero_add, hs'.row.cell i]
                have e : Pl.keep (bss ss) p.pol = Pl.mark (markTo (bss ss) p.pol d p.rs.length) ((idx d).take j) := by rw [hke, HLast.out, HM2.out]
                simp only [e]
                rw [List.getElem?_eq_getElem]
end Go.Proofs.YtbajnkkekibdmaaDoor
