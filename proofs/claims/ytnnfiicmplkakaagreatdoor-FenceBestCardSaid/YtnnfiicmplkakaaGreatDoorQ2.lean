/- Walks of package disk: power, has, act, Raw. The disk in memory; the walk of Read. A struct and a slice of one element, built of a long row: what 'fill' makes. Walk of disk.Write. Walk of disk.Flush. -/
import Derived.Test.YtnnfiicmplkakaaGreatDoorQ1
import Derived.Deep.WholeRow
import Derived.Deep.DeepCutAuto
import Derived.Great.BuildSlice
import Derived.Deep.RegionHeld3
import Derived.Deep.AppendLies
import Derived.Laws.Cover3
namespace Go.Proofs.YtnnfiicmplkakaaGreatDoor
open Go.RowKit Go.Shelf

set_option maxHeartbeats 1000000 in
theorem power_any (bd : Nat) (w : World) (h : w.cell? ⟨bd, 4, none⟩ = some (.bool false)) : Calls Tryz.prog 83 #[.pointer (some ⟨bd, 0, none⟩)] w fun e w' => e = .returned (.int .i64 0) ∧ Below w.heap.size w w' := by
  have HT := hide (there_any bd w)
  have HAl := hide (alive_any bd w h)
  have HU := hide (unless_any true 4 w)
  have HFi := hide (first_any w.heap.size [0, 0] 2 (w.alloc (.cells #[.int .i64 0, .int .i64 0] 34)) (fun i hi => by
    have := (Whole.new w [.int .i64 0, .int .i64 0] 34).cell i
    rw [this]
    have h2 : i < 2 := hi
    have : i = 0 ∨ i = 1 := by omega
    rcases this with rfl | rfl <;> rfl) (by decide))
  clear h
  go_enter Tryz.func83, Tryz.ntmps83
  go_wp2_with (first | (go_at_call 138; refine HT.out.mono ?_; rintro e w' ⟨rfl, rfl⟩) | (go_at_call 140; refine HAl.out.mono ?_; rintro e w' ⟨rfl, rfl⟩) | (go_at_call 139; refine HU.out.mono ?_; rintro e w' ⟨rfl, rfl⟩))
  refine HFi.out.mono ?_
  rintro e w' ⟨rfl, rfl⟩
  go_wp2_with fail
  go_ret
  exact ⟨rfl, (Below.refl _ _).alloc (Nat.le_refl _) _⟩
set_option maxHeartbeats 1000000 in
theorem has_any (bd n c i : Nat) (A : Option Addr) (w : World) (h : w.cell? ⟨bd, 2, none⟩ = some (.slice A n c)) (hi : i < n) : Calls Tryz.prog 84 #[.pointer (some ⟨bd, 0, none⟩), .int .i64 i] w fun e w' => e = .returned (.int .i64 0) ∧ w = w' := by
  have HL := hide (dlen_any bd n c A w h)
  have HU := hide (unless_any true 2 w)
  clear h
  go_enter Tryz.func84, Tryz.ntmps84
  go_wp2_with (first | (go_at_call 21; refine HL.out.mono ?_; rintro e w' ⟨rfl, rfl⟩) | (go_at_call 139; refine HU.out.mono ?_; rintro e w' ⟨rfl, rfl⟩))
  go_ret
  exact ⟨rfl, rfl⟩
theorem act_any (bd : Nat) (acts : Int) (w : World) (h0 : w.cell? ⟨bd, 0, none⟩ = some (.int .i64 (-1))) (h5 : w.cell? ⟨bd, 5, none⟩ = some (.int .u64 acts)) (f5 : w.frozen? ⟨bd, 5, none⟩ = false) :
    Calls Tryz.prog 155 #[.pointer (some ⟨bd, 0, none⟩)] w fun e w' => e = .returned (.int .i64 0) ∧ w' = w.setCell ⟨bd, 5, none⟩ (.int .u64 (IntKind.u64.wrap (acts + 1))) := by
  go_enter Tryz.func155, Tryz.ntmps155
  go_wp2
  go_ret
  exact ⟨rfl, rfl⟩
/-- a store of a whole row into a block that is new -/
theorem wpList_store_new {P : Program} {ops : Array Oper} {rest : List Oper} {op : Oper} {a : Act} {Q : Exit → Act → World → Prop} (w : World) (hgd : op.guard = none) (ty : TypeId) (x y : Operand) (ho : op.op = .store ty x y)
    (c c' : Array Value) (hx : a.eval x = .pointer (some ⟨w.heap.size, 0, none⟩)) (hy : a.eval y = .agg c') (hi : (P.info? ty).map (·.size) = some c'.size) (hs : c.size = c'.size) (h1 : c'.all (·.oneCell') = true)
    (h : wpList P ops Q rest (a.put op.dst undef) (w.alloc (.cells c' ty))) : wpList P ops Q (op :: rest) a (w.alloc (.cells c ty)) := by
  refine wpList_plain hgd fun K hK => ?_
  unfold Oper.wp execOp
  simp only [ho, hx, hy, run_storeAt_new (P := P) w ty c c' hi hs h1, Sem.run_bind, Sem.run_pure, Result.andThen_ok]
  exact hK _ _ h
theorem secInfo : (Tryz.prog.info? 177).map (·.size) = some 512 := by kernel_rfl
theorem zsec : Tryz.zeroCells177.size = 512 := by kernel_rfl
theorem wrInfo : (Tryz.prog.info? 179).map (·.size) = some 513 := by kernel_rfl
set_option maxHeartbeats 1000000 in
set_option maxRecDepth 20000 in
theorem raw_any (bd bon n c i : Nat) (xs : List Int) (w : World) (h : w.cell? ⟨bd, 2, none⟩ = some (.slice (some ⟨bon, 0, none⟩) n c)) (hi : i < n) (hr : w.rangeAt bon (i * 512) (bv xs)) (hx : xs.length = 512) :
    Calls Tryz.prog 85 #[.pointer (some ⟨bd, 0, none⟩), .int .i64 i] w fun e w' => e = .returned (.slice (some ⟨w.heap.size, 0, none⟩) 512 512) ∧ w' = w.alloc (.cells (bv xs).toArray 177) := by
  have HH := hide (has_any bd n c i _ w h hi)
  have HR := hide hr
  clear hr
  go_enter Tryz.func85, Tryz.ntmps85
  go_wp2_with fail
  refine HH.out.mono ?_
  rintro e w' ⟨rfl, rfl⟩
  have hbl : (bv xs).length = 512 := by rw [bv_len, hx]
  have HI := hide (show (Tryz.prog.info? 177).map (·.size) = some (bv xs).length from by rw [hbl]; exact secInfo)
  have HZ := hide (show Tryz.zeroCells177.size = (bv xs).toArray.size from zsec.trans (by rw [List.size_toArray, hbl]))
  have HOne := hide (all_oneCell_toArray (bv_one xs))
  clear hbl
  go_wp2_with (first | (refine wpList_load_mid rfl 177 _ rfl bon (i * 512) rfl (bv xs) _ HR.out Tryz.underlying177 rfl HI.out ?_) | (refine wpList_store_new w rfl 177 _ _ rfl Tryz.zeroCells177 (bv xs).toArray rfl rfl HI.out HZ.out HOne.out ?_))
  go_ret
  exact ⟨rfl, rfl⟩
end Go.Proofs.YtnnfiicmplkakaaGreatDoor
namespace Go.Proofs.YtnnfiicmplkakaaGreatDoor
open Go.RowKit Go.Shelf

/-- a write's cells -/
def wrC (x : List Int × Nat) : List Value := bv x.1 ++ [.int .i64 (x.2 : Int)]
def wtC (wt : List (List Int × Nat)) : List Value := wt.flatMap wrC
/-- what the sectors read as, behind writes that wait -/
def rd (on : Nat → List Int) (wt : List (List Int × Nat)) : Nat → List Int := wt.foldl (fun f x i => if i = x.2 then x.1 else f i) on
theorem rd_snoc (on : Nat → List Int) (wt : List (List Int × Nat)) (x : List Int × Nat) (i : Nat) : rd on (wt ++ [x]) i = if i = x.2 then x.1 else rd on wt i := by simp [rd, List.foldl_append]
theorem rd_take (on : Nat → List Int) (wt : List (List Int × Nat)) (k : Nat) (h : k < wt.length) (i : Nat) : rd on (wt.take (k + 1)) i = if i = wt[k].2 then wt[k].1 else rd on (wt.take k) i := by
  rw [List.take_succ_eq_append_getElem h, rd_snoc]
/-- the writes that wait are good -/
def GoodW (n : Nat) (wt : List (List Int × Nat)) : Prop := ∀ x ∈ wt, x.1.length = 512 ∧ Byt x.1 ∧ x.2 < n
theorem wrC_len {x : List Int × Nat} (h : x.1.length = 512) : (wrC x).length = 513 := by simp [wrC, bv_len, h]
theorem wtC_len {n : Nat} {wt : List (List Int × Nat)} (h : GoodW n wt) : (wtC wt).length = wt.length * 513 := by
  induction wt with
  | nil => rfl
  | cons x wt ih =>
    have h1 := wrC_len (h x (List.mem_cons_self ..)).1
    have h2 := ih fun y hy => h y (List.mem_cons_of_mem _ hy)
    simp only [wtC, List.flatMap_cons, List.length_append, List.length_cons] at h2 ⊢
    omega
theorem wtC_at {n : Nat} {wt : List (List Int × Nat)} (h : GoodW n wt) (k : Nat) (hk : k < wt.length) (r : Nat) (hr : r < 513) : (wtC wt)[k * 513 + r]? = (wrC wt[k])[r]? := by
  induction wt generalizing k with
  | nil => simp at hk
  | cons x wt ih =>
    have h1 := wrC_len (h x (List.mem_cons_self ..)).1
    have h2 := fun k hk => ih (fun y hy => h y (List.mem_cons_of_mem _ hy)) k hk
    simp only [wtC, List.flatMap_cons] at h2 ⊢
    cases k with
    | zero => rw [Nat.zero_mul, Nat.zero_add, List.getElem?_append_left (by omega)]; rfl
    | succ k =>
      rw [List.getElem?_append_right (by omega), show (k + 1) * 513 + r - (wrC x).length = k * 513 + r by omega, h2 k (by simpa using hk)]
      rfl
theorem wrC_one (x : List Int × Nat) : ∀ u ∈ wrC x, u.oneCell' = true := by
  intro u hu
  rcases List.mem_append.1 hu with hu | hu
  · exact bv_one _ u hu
  · rw [List.mem_singleton.1 hu]; rfl
/-- a disk with power: its box, its sectors, its writes that wait -/
structure Dk (W : World) (bd bon n : Nat) (wv : Value) (on : Nat → List Int) (wt : List (List Int × Nat)) (acts : Int) : Prop where
  box : Whole W bd 76 [.int .i64 (-1), .string ⟨#[]⟩, .slice (some ⟨bon, 0, none⟩) n n, wv, .bool false, .int .u64 acts]
  rng : ∀ i, i < n → W.rangeAt bon (i * 512) (bv (on i))
  thr : W.there bon 0 (n * 512)
  bl : bon < W.heap.size
  sec : ∀ i, i < n → (on i).length = 512 ∧ Byt (on i)
  own : W.ownsRow 0 179 513 wv wt.length (wtC wt)
  wts : GoodW n wt
  ne1 : bd ≠ bon
  ne2 : wv.ownBlock ≠ some bon
def dkF (bd bon : Nat) (wv : Value) : Nat → Prop := fun k => k = bd ∨ k = bon ∨ wv.ownBlock = some k
section
variable {W W' : World} {bd bon n : Nat} {wv : Value} {on : Nat → List Int} {wt : List (List Int × Nat)} {acts : Int}
theorem rangeAt_kp {F : Nat → Prop} {b o : Nat} {cs : List Value} (h : W.rangeAt b o cs) (hb : b < W.heap.size) (hk : Kp F W W') (hn : ¬ F b) : W'.rangeAt b o cs := fun j v hv => (hk.cell (p := ⟨b, o + j, none⟩) hb hn).trans (h j v hv)
theorem there_kp {F : Nat → Prop} {b o n : Nat} (h : W.there b o n) (hb : b < W.heap.size) (hk : Kp F W W') (hn : ¬ F b) : W'.there b o n := fun j hj =>
  ⟨by rw [hk.cell (p := ⟨b, o + j, none⟩) hb hn]; exact (h j hj).1, by rw [hk.frozen (p := ⟨b, o + j, none⟩) hb hn]; exact (h j hj).2⟩
theorem Dk.kp {F : Nat → Prop} (h : Dk W bd bon n wv on wt acts) (hk : Kp F W W') (hn : ∀ k, dkF bd bon wv k → F k → False) : Dk W' bd bon n wv on wt acts :=
  ⟨h.box.kp hk (hn _ (.inl rfl)), fun i hi => rangeAt_kp (h.rng i hi) h.bl hk (hn _ (.inr (.inl rfl))), there_kp h.thr h.bl hk (hn _ (.inr (.inl rfl))), Nat.lt_of_lt_of_le h.bl hk.size, h.sec,
    owns_block h.own fun g hg => hk.block g (h.own.lt g hg).2 (hn _ (.inr (.inr hg))), h.wts, h.ne1, h.ne2⟩
theorem Dk.below (h : Dk W bd bon n wv on wt acts) (hb : Below W.heap.size W W') : Dk W' bd bon n wv on wt acts := h.kp (F := NoF) (Kp.of_below hb) fun _ _ h => h.elim
theorem Dk.lt (h : Dk W bd bon n wv on wt acts) {k : Nat} (hk : dkF bd bon wv k) : k < W.heap.size := by
  rcases hk with rfl | rfl | hk
  · exact h.box.lt
  · exact h.bl
  · exact (h.own.lt k hk).2
theorem Dk.wrange (h : Dk W bd bon n wv on wt acts) (k : Nat) (hk : k < wt.length) : ∃ g c, wv = .slice (some ⟨g, 0, none⟩) wt.length c ∧ g < W.heap.size ∧ W.rangeAt g (k * 513) (wrC wt[k]) := by
  rcases h.own.2 with ⟨rfl, h0⟩ | ⟨g, cap, cur, rfl, _, hg, _, _, _, ht⟩
  · omega
  · refine ⟨g, cap, rfl, (Array.getElem?_eq_some_iff.1 hg).1, fun j v hv => ?_⟩
    have hlen := wrC_len (h.wts _ (List.getElem_mem hk)).1
    have hj : j < 513 := by rw [← hlen]; exact (List.getElem?_eq_some_iff.1 hv).1
    have h1 := wtC_at h.wts k hk j hj
    rw [← ht, hv, List.getElem?_take_of_lt (by have : (k + 1) * 513 ≤ wt.length * 513 := Nat.mul_le_mul_right _ hk; omega), Array.getElem?_toList] at h1
    simp [World.cell?, hg, h1]
end
theorem zwr : Tryz.zeroCells179.size = 513 := by kernel_rfl
/-- a sector that was read: in a block that is new -/
def ReadRes (xs : List Int) (W : World) (e : Ending) (W' : World) : Prop := ∃ A, e = .returned (.tuple #[.slice A 512 512, .int .i64 0]) ∧ Mem W' W'.heap.size A (bv xs) ∧ Below W.heap.size W W'
set_option maxHeartbeats 2000000 in
set_option maxRecDepth 20000 in
theorem read_any (bd bon n : Nat) (wv : Value) (on : Nat → List Int) (wt : List (List Int × Nat)) (acts : Int) (i : Nat) (W : World) (h : Dk W bd bon n wv on wt acts) (hi : i < n) (hl : wt.length ≤ 100000) :
    Calls Tryz.prog 55 #[.pointer (some ⟨bd, 0, none⟩), .int .i64 i] W (ReadRes (rd on wt i) W) := by
  have HD := hide h
  obtain ⟨A0, cw, rfl⟩ := owns_slice h.own
  have HP := hide (power_any bd W (h.box.cell 4))
  have HH := fun W' (hb : Below W.heap.size W W') => hide (has_any bd n n i _ W' ((h.below hb).box.cell 2) hi)
  have HFi := fun (W' : World) => hide (show Calls Tryz.prog 82 #[.slice (some ⟨W'.heap.size, 0, none⟩) 2 2] (W'.alloc (.cells #[.int .i64 0, .int .i64 0] 34)) (fun e w' => e = .returned (.int .i64 0) ∧ W'.alloc (.cells #[.int .i64 0, .int .i64 0] 34) = w') from first_any W'.heap.size [0, 0] 2 (W'.alloc (.cells #[.int .i64 0, .int .i64 0] 34)) (fun i hi => by
    have := (Whole.new W' [.int .i64 0, .int .i64 0] 34).cell i
    rw [this]
    have h2 : i < 2 := hi
    have : i = 0 ∨ i = 1 := by omega
    rcases this with rfl | rfl <;> rfl) (by decide))
  clear h
  go_enter Tryz.func55, Tryz.ntmps55
  go_wp2_with fail
  refine HP.out.mono ?_
  rintro e w1 ⟨rfl, hb1⟩
  have HB1 := hide hb1
  clear hb1
  go_wp2_with fail
  refine (HH _ HB1.out).out.mono ?_
  rintro e w2 ⟨rfl, rfl⟩
  go_wp2_with fail
  refine (HFi w1).out.mono ?_
  rintro e w2 ⟨rfl, rfl⟩
  have HB2 := hide (HB1.out.alloc HB1.out.size (.cells #[.int .i64 0, .int .i64 0] 34))
  clear HB1
  generalize w1.alloc (.cells #[.int .i64 0, .int .i64 0] 34) = w2 at *
  have c3 := (HD.out.below HB2.out).box.cell 3
  go_wp2_with fail
  clear c3
  go_loopw [7] (fun x wr => ∃ k : Nat, k ≤ wt.length ∧ x = .int .i64 ((k : Int) - 1) ∧ Below W.heap.size W wr ∧ rd on wt i = rd on (wt.take k) i) (fun x _ => (intOf x + 1).toNat)
  case atStart => exact ⟨wt.length, Nat.le_refl _, rfl, HB2.out, by rw [List.take_length]⟩
  case round =>
    obtain ⟨k, hk, rfl, hb, hr⟩ := hrel
    have HB := hide hb
    have HR := hide hr
    clear hb hr
    have c3 := (HD.out.below HB.out).box.cell 3
    have c2 := (HD.out.below HB.out).box.cell 2
    cases k with
    | zero =>
      have e0 : ((0 : Nat) : Int) - 1 = -1 := rfl
      rw [e0]
      have HS := HD.out.sec i hi
      have HRaw := hide (raw_any bd bon n n i (on i) wr c2 hi ((HD.out.below HB.out).rng i hi) HS.1)
      have HRd := hide (show rd on wt i = on i from HR.out)
      clear c2 HS e0
      go_wp2_with fail
      refine HRaw.out.mono ?_
      rintro e w3 ⟨rfl, rfl⟩
      go_wp2_with fail
      go_ret2
      exact ⟨some ⟨wr.heap.size, 0, none⟩, rfl, by rw [HRd.out]; exact (Whole.new wr (bv (on i)) _).mem, HB.out.alloc HB.out.size _⟩
    | succ m =>
      have e0 : ((m + 1 : Nat) : Int) - 1 = m := by omega
      rw [e0]
      clear e0
      have hm : m < wt.length := hk
      obtain ⟨g, cg, hgv, hgl, hrg⟩ := (HD.out.below HB.out).wrange m hm
      injection hgv with hg1 _ hg3
      subst hg1 hg3
      have HG := hide hrg
      have HGo := HD.out.wts _ (List.getElem_mem hm)
      have HT := hide (rd_take on wt m hm i)
      have HRg := hide (show rd on wt i = rd on (wt.take (m + 1)) i from HR.out)
      clear hrg HR c2
      have hwl := wrC_len HGo.1
      have HX := hide HGo
      have h512 : (wrC wt[m])[512]? = some (.int .i64 (wt[m].2 : Int)) := by
        have e : (bv wt[m].1).length = 512 := by rw [bv_len]; exact HGo.1
        rw [wrC, List.getElem?_append_right (by omega), e]
        rfl
      have HM := hide (show Mem (wr.alloc (.cells (wrC wt[m]).toArray 179)) (wr.alloc (.cells (wrC wt[m]).toArray 179)).heap.size (some ⟨wr.heap.size, 0, none⟩) (bv wt[m].1) by
        have h1 := (Whole.new wr (wrC wt[m]) 179).mem.cut 512
        have e : (wrC wt[m]).take 512 = bv wt[m].1 := by
          rw [wrC, List.take_append_of_le_length (by rw [bv_len]; omega), List.take_of_length_le (by rw [bv_len]; omega)]
        rwa [e] at h1)
      have HC := hide (show (wr.alloc (.cells (wrC wt[m]).toArray 179)).cell? ⟨wr.heap.size, 512, none⟩ = some (.int .i64 (wt[m].2 : Int)) from ((Whole.new wr (wrC wt[m]) 179).cell 512).trans h512)
      have HI := hide (show (Tryz.prog.info? 179).map (·.size) = some (wrC wt[m]).length from by rw [hwl]; exact wrInfo)
      have HI2 := hide (show (Tryz.prog.info? 179).map (·.size) = some (wrC wt[m]).toArray.size from HI.out)
      have HZ := hide (show Tryz.zeroCells179.size = (wrC wt[m]).toArray.size from zwr.trans (by rw [List.size_toArray, hwl]))
      have HOne := hide (all_oneCell_toArray (wrC_one wt[m]))
      clear HGo hwl h512
      generalize wrC wt[m] = cs at *
      generalize wt[m].2 = aw at *
      generalize wt[m].1 = xs at *
      go_upto_region 8 with (first | (refine wpList_load_mid rfl 179 _ rfl g (m * 513) rfl cs _ HG.out Tryz.underlying179 rfl HI.out ?_) | (refine wpList_store_new wr rfl 179 _ _ rfl Tryz.zeroCells179 cs.toArray rfl rfl HI2.out HZ.out HOne.out ?_))
      have HB3 := hide (HB.out.alloc HB.out.size (.cells cs.toArray 179))
      generalize wr.alloc (.cells cs.toArray 179) = w3 at *
      generalize wr.heap.size = bw at *
      have f1 := HC.out
      by_cases hat : aw = i
      · subst hat
        have HRd := hide (show rd on wt aw = xs by rw [HRg.out, HT.out, if_pos rfl])
        have hbe : ((aw : Int) == (aw : Int)) = true := by simp
        go_wp2_with fail
        go_ret2
        exact ⟨some ⟨bw, 0, none⟩, rfl, by rw [HRd.out]; exact HM.out, HB3.out⟩
      · have HRd := hide (show rd on wt i = rd on (wt.take m) i by rw [HRg.out, HT.out, if_neg (fun e => hat e.symm)])
        have hbe : ((aw : Int) == (i : Int)) = false := by rw [beq_eq_false_iff_ne]; omega
        have hlm : m ≤ wt.length := by omega
        clear hat
        go_wp2_with fail
        go_roundw
        case rel => exact ⟨m, hlm, rfl, HB3.out, HRd.out⟩
        case measure => simp [intOf]
end Go.Proofs.YtnnfiicmplkakaaGreatDoor
namespace Go.Proofs.YtnnfiicmplkakaaGreatDoor
open Go.RowKit Go.Shelf

theorem setAll_get (off : Nat) (l : List Value) : ∀ (k : Nat) (cs : Array Value) (m : Nat), ((l.zipIdx k).foldl (fun cs x => cs.setIfInBounds (off + x.2) x.1) cs)[m]? = if off + k ≤ m ∧ m < off + k + l.length ∧ m < cs.size then l[m - (off + k)]? else cs[m]? := by
  induction l with
  | nil => intro k cs m; simp; omega
  | cons x l ih =>
    intro k cs m
    rw [List.zipIdx_cons, List.foldl_cons, ih, Array.size_setIfInBounds, List.length_cons]
    by_cases h1 : off + k = m
    · subst h1
      rw [if_neg (by omega)]
      by_cases h2 : off + k < cs.size
      · rw [if_pos ⟨Nat.le_refl _, by omega, h2⟩]
        simp [h2]
      · rw [if_neg (by omega)]
        simp [h2]
    · by_cases h3 : off + (k + 1) ≤ m ∧ m < off + (k + 1) + l.length ∧ m < cs.size
      · rw [if_pos h3, if_pos (by omega), show m - (off + k) = m - (off + (k + 1)) + 1 by omega, List.getElem?_cons_succ]
      · rw [if_neg h3, if_neg (by omega), Array.getElem?_setIfInBounds, if_neg h1]
theorem setAll_arr (off : Nat) (a cs : Array Value) (m : Nat) : (a.zipIdx.foldl (fun cs (c, j) => cs.setIfInBounds (off + j) c) cs)[m]? = if off ≤ m ∧ m < off + a.size ∧ m < cs.size then a[m - off]? else cs[m]? := by
  have h := setAll_get off a.toList 0 cs m
  rw [← Array.foldl_toList, Array.toList_zipIdx]
  rw [Nat.add_zero, Array.length_toList, Array.getElem?_toList] at h
  exact h
theorem setAll_size (off : Nat) (a cs : Array Value) : (a.zipIdx.foldl (fun cs (c, j) => cs.setIfInBounds (off + j) c) cs).size = cs.size := by
  rw [← Array.foldl_toList, Array.toList_zipIdx]
  suffices h : ∀ (l : List (Value × Nat)) (cs : Array Value), (l.foldl (fun cs (x : Value × Nat) => cs.setIfInBounds (off + x.2) x.1) cs).size = cs.size from h _ _
  intro l
  induction l with
  | nil => intro cs; rfl
  | cons x l ih => intro cs; rw [List.foldl_cons, ih, Array.size_setIfInBounds]
theorem fill_step (p : Nat → Option (Nat × Nat)) (cells : Array Value) (i : Nat) (v : Value) (rest : List (Nat × Value)) (off : Nat) (hp : p i = some (off, v.cells.size)) (h : off + v.cells.size ≤ cells.size) :
    Instr.fill p cells ((i, v) :: rest) = Instr.fill p (v.cells.zipIdx.foldl (fun cs (c, j) => cs.setIfInBounds (off + j) c) cells) rest := by
  rw [Instr.fill]
  simp only [hp]
  rw [if_neg (by simp; omega)]
/-- one part that covers all -/
theorem fill_whole (cells a : Array Value) (p : Nat → Option (Nat × Nat)) (hp : p 0 = some (0, a.size)) (h : cells.size = a.size) : Instr.fill p cells [(0, .agg a)] = some a := by
  rw [fill_step p cells 0 (.agg a) [] 0 hp (by show 0 + a.size ≤ _; omega), Instr.fill]
  congr 1
  apply Array.ext_getElem?
  intro m
  show (a.zipIdx.foldl (fun cs (c, j) => cs.setIfInBounds (0 + j) c) cells)[m]? = _
  rw [setAll_arr]
  by_cases hm : m < a.size
  · rw [if_pos ⟨Nat.zero_le _, by omega, by omega⟩, Nat.sub_zero]
  · rw [if_neg (by omega), Array.getElem?_eq_none (by omega), Array.getElem?_eq_none (by omega)]
theorem fill_two (cells a : Array Value) (v : Value) (p : Nat → Option (Nat × Nat)) (hp0 : p 0 = some (0, a.size)) (hp1 : p 1 = some (a.size, 1)) (hv : v.cells = #[v]) (h : cells.size = a.size + 1) : Instr.fill p cells [(0, .agg a), (1, v)] = some (a.push v) := by
  have h1 : v.cells.size = 1 := by rw [hv]; rfl
  rw [fill_step p cells 0 (.agg a) _ 0 hp0 (by show 0 + a.size ≤ _; omega)]
  show Instr.fill p (a.zipIdx.foldl (fun cs (c, j) => cs.setIfInBounds (0 + j) c) cells) [(1, v)] = _
  have hsz : (a.zipIdx.foldl (fun cs (c, j) => cs.setIfInBounds (0 + j) c) cells).size = cells.size := setAll_size 0 a cells
  rw [fill_step p _ 1 v [] a.size (by rw [h1]; exact hp1) (by rw [h1, hsz]; omega), Instr.fill]
  congr 1
  apply Array.ext_getElem?
  intro m
  rw [setAll_arr, setAll_arr, hsz, h1, hv, Array.getElem?_push]
  by_cases hm : m < a.size
  · rw [if_neg (by omega), if_pos ⟨Nat.zero_le _, by omega, by omega⟩, if_neg (by omega), Nat.sub_zero]
  · by_cases h2 : m = a.size
    · subst h2
      rw [if_pos ⟨Nat.le_refl _, by omega, by omega⟩, if_pos rfl, Nat.sub_self]
      rfl
    · rw [if_neg (by omega), if_neg (by omega), if_neg h2, Array.getElem?_eq_none (by omega), Array.getElem?_eq_none (by omega)]
theorem wr_built (xs : List Int) (i : Nat) (hx : xs.length = 512) (W : World) : (Instr.build 179 #[(0, .agg (bv xs).toArray), (1, .int .i64 i)]).run Tryz.prog W = .ok (.agg (wrC (xs, i)).toArray) W := by
  refine run_build W 179 _ _ ?_
  have hs : (bv xs).toArray.size = 512 := by rw [List.size_toArray, bv_len, hx]
  obtain ⟨i0, hi0, hz0, _, _⟩ : ∃ i, Tryz.prog.info? 179 = some i ∧ i.zero = some (.agg Tryz.zeroCells179) ∧ i.size = 513 ∧ i.bytes = 520 := info_parts (by kernel_rfl)
  have hpl : ∃ fields, Tryz.prog.underlying 179 = some (.struct fields) ∧ fields.toList.mapM (fun f => (Tryz.prog.info? f.type).map fun i => (f.offset, i.size)) = some [(0, 512), (512, 1)] := ⟨_, Tryz.underlying179, by kernel_rfl⟩
  obtain ⟨fields, hu, hf⟩ := hpl
  unfold Program.built
  simp only [hi0, hu, hz0, hf]
  have e : (wrC (xs, i)).toArray = (bv xs).toArray.push (.int .i64 (i : Int)) := by simp [wrC]
  rw [e]
  exact fill_two _ _ _ _ (by rw [hs]; rfl) (by rw [hs]; rfl) rfl (by rw [hs]; exact zwr)
theorem wr_slice (x : List Int × Nat) (hx : x.1.length = 512) (W : World) : (Instr.buildSlice 74 1 #[(0, .agg (wrC x).toArray)]).run Tryz.prog W = .ok (.slice (some ⟨W.heap.size, 0, none⟩) 1 1) (W.alloc (.cells (wrC x).toArray 179)) := by
  obtain ⟨i0, hi0, hz0, hz1, _⟩ : ∃ i, Tryz.prog.info? 179 = some i ∧ i.zero = some (.agg Tryz.zeroCells179) ∧ i.size = 513 ∧ i.bytes = 520 := info_parts (by kernel_rfl)
  have hs : (wrC x).toArray.size = 513 := by rw [List.size_toArray, wrC_len hx]
  refine run_buildSlice W 74 179 1 _ _ i0 _ Tryz.underlying74 hi0 hz0 (by rw [hz1]; decide) (by rw [hz1]; decide) ?_
  refine fill_whole _ _ _ ?_ ?_
  · simp [hz1, hs]
  · simp [hz1, hs]
theorem exec_build {P : Program} {op : Oper} {a : Act} (w : World) (t : TypeId) (parts : Array (Nat × Operand)) (ho : op.op = .build t parts) (vals : Array (Nat × Value)) (hv : (parts.map fun (i, x) => (i, a.eval x)) = vals) (v : Value) (hr : (Instr.build t vals).run P w = .ok v w) :
    (execOp a.eval op).run P w = .ok (.value v) w := by
  unfold execOp
  simp only [ho, hv, Sem.run_bind, Sem.run_pure, hr, Result.andThen_ok]
theorem step_buildSlice {P : Program} {ops : Array Oper} {o : Oper} {a : Act} {w w' : World} {K : Act → World → Prop} {Q : Exit → Act → World → Prop} {E : Prop} (hgd : o.guard = none) (t : TypeId) (len : Nat) (parts : Array (Nat × Operand)) (ho : o.op = .buildSlice t len parts) (vals : Array (Nat × Value)) (hv : (parts.map fun (i, x) => (i, a.eval x)) = vals) (v : Value)
    (hr : (Instr.buildSlice t len vals).run P w = .ok v w') (h : K (a.put o.dst v) w') : if Region.wanted o (yielded ops a.tmps) = true then Oper.wp P o a w K Q else E := by
  have hw : Region.wanted o (yielded ops a.tmps) = true := by simp [Region.wanted, hgd]
  rw [if_pos hw]
  unfold Oper.wp execOp
  simp only [ho, hv, Sem.run_bind, Sem.run_pure, hr, Result.andThen_ok]
  exact h
theorem step_store_mid {P : Program} {ops : Array Oper} {o : Oper} {a : Act} {w : World} {K : Act → World → Prop} {Q : Exit → Act → World → Prop} {E : Prop} (hgd : o.guard = none) (ty : TypeId) (x y : Operand) (ho : o.op = .store ty x y)
    (b off : Nat) (cells : Array Value) (hx : a.eval x = .pointer (some ⟨b, off, none⟩)) (hy : a.eval y = .agg cells)
    (ht : w.there b off cells.size) (hi : (P.info? ty).map (·.size) = some cells.size) (h1 : cells.all (·.oneCell') = true)
    (h : K (a.put o.dst undef) (w.setCells b off cells.toList)) : if Region.wanted o (yielded ops a.tmps) = true then Oper.wp P o a w K Q else E := by
  have hw : Region.wanted o (yielded ops a.tmps) = true := by simp [Region.wanted, hgd]
  rw [if_pos hw]
  exact wp_store_mid ty x y ho b off cells hx hy ht hi h1 h
end Go.Proofs.YtnnfiicmplkakaaGreatDoor
namespace Go.Proofs.YtnnfiicmplkakaaGreatDoor
open Go.RowKit Go.Shelf

theorem infoWr : ∃ i, Tryz.prog.info? 179 = some i ∧ i.zero = some (.agg Tryz.zeroCells179) ∧ i.size = 513 ∧ i.bytes = 520 := by
  have h : (Tryz.prog.info? 179).map (fun i => (i.zero, i.size, i.bytes)) = some (some (.agg Tryz.zeroCells179), 513, 520) := by kernel_rfl
  exact info_parts h
/-- a load of a whole row, as a held region takes it first -/
theorem exec_load_mid {P : Program} {op : Oper} {a : Act} (w : World) (ty : TypeId) (x : Operand) (ho : op.op = .load ty x) (b o : Nat) (hx : a.eval x = .pointer (some ⟨b, o, none⟩)) (cs : List Value) (d : TypeDesc) (hS : w.rangeAt b o cs)
    (hu : P.underlying ty = some d) (hd : d.isRow = true) (hi : (P.info? ty).map (·.size) = some cs.length) : (execOp a.eval op).run P w = .ok (.value (.agg cs.toArray)) w := by
  unfold execOp
  simp only [ho, hx, Instr.loadAt, Instr.sureAddr, Sem.run_bind, Sem.run_pure, Result.andThen_ok, run_loadVar_mid w b o ty cs d hS hu hd hi]
section
variable {W W' : World} {bd bon n : Nat} {wv : Value} {on : Nat → List Int} {wt : List (List Int × Nat)} {acts : Int}
/-- the disk behind something that it does: what it owns is what it owned, or new -/
def DkRes (W : World) (bd bon n : Nat) (wv : Value) (on' : Nat → List Int) (wt' : List (List Int × Nat)) (W' : World) : Prop :=
  ∃ wv' acts', Dk W' bd bon n wv' on' wt' acts' ∧ Kp (dkF bd bon wv) W W' ∧ ∀ k, dkF bd bon wv' k → dkF bd bon wv k ∨ W.heap.size ≤ k
theorem Dk.acted (h : Dk W bd bon n wv on wt acts) (a : Int) : Dk (W.setCell ⟨bd, 5, none⟩ (.int .u64 a)) bd bon n wv on wt a := by
  have hk : Kp (OnlyF bd) W (W.setCell ⟨bd, 5, none⟩ (.int .u64 a)) := Kp.set_only _ _ _ _
  have hne : ¬ OnlyF bd bon := fun e => h.ne1 e.symm
  exact ⟨h.box.set_ 5 _, fun i hi => rangeAt_kp (h.rng i hi) h.bl hk hne, there_kp h.thr h.bl hk hne, Nat.lt_of_lt_of_le h.bl hk.size, h.sec,
    owns_block h.own fun g hg => hk.block g (h.own.lt g hg).2 (fun e => own_ne h.own h.box (by decide) (by unfold OnlyF at e; rw [hg, e])), h.wts, h.ne1, h.ne2⟩
/-- behind the append, ahead of the store -/
structure DkS (W : World) (bd bon n : Nat) (wv : Value) (on : Nat → List Int) (wt' : List (List Int × Nat)) (acts : Int) (wv' : Value) (w2 : World) : Prop where
  kp : Kp (dkF bd bon wv) W w2
  box : Whole w2 bd 76 [.int .i64 (-1), .string ⟨#[]⟩, .slice (some ⟨bon, 0, none⟩) n n, wv, .bool false, .int .u64 acts]
  rng : ∀ i, i < n → w2.rangeAt bon (i * 512) (bv (on i))
  thr : w2.there bon 0 (n * 512)
  bl : bon < w2.heap.size
  sec : ∀ i, i < n → (on i).length = 512 ∧ Byt (on i)
  own : w2.ownsRow 0 179 513 wv' wt'.length (wtC wt')
  wts : GoodW n wt'
  ne1 : bd ≠ bon
  ne2 : wv'.ownBlock ≠ some bon
  ns : ∀ k, wv'.ownBlock = some k → dkF bd bon wv k ∨ W.heap.size ≤ k
theorem dkS {w1 w2 : World} {A' : Option Addr} {q' : Nat} {x : List Int × Nat} (h0 : bon < W.heap.size) (hb : Below W.heap.size W w1) (h : Dk w1 bd bon n wv on wt acts) (hx : x.1.length = 512 ∧ Byt x.1 ∧ x.2 < n)
    (ho : w2.ownsRow 0 179 513 (.slice A' (wt.length + 1) q') (wt.length + 1) (wtC wt ++ wrC x))
    (hg : w1.grownBy w2 wv.ownBlock) (hns : ∀ g, (Value.slice A' (wt.length + 1) q').ownBlock = some g → wv.ownBlock = some g ∨ w1.heap.size ≤ g) : DkS W bd bon n wv on (wt ++ [x]) acts (.slice A' (wt.length + 1) q') w2 := by
  have hk : Kp (OwnF wv) w1 w2 := (Kp.refl _ _).grown hg fun k hk => .inl hk
  have hnb : ¬ OwnF wv bon := fun e => h.ne2 e
  refine ⟨(Kp.of_below hb).grown hg (fun k hk => .inl (.inr (.inr hk))), h.box.kp hk (fun e => own_ne h.own h.box (by decide) e), fun i hi => rangeAt_kp (h.rng i hi) h.bl hk hnb, there_kp h.thr h.bl hk hnb, Nat.lt_of_lt_of_le h.bl hk.size, h.sec, ?_, ?_, h.ne1, ?_, fun k hk => ?_⟩
  · have e : wtC (wt ++ [x]) = wtC wt ++ wrC x := by simp [wtC]
    rw [List.length_append, List.length_singleton, e]
    exact ho
  · intro y hy
    rcases List.mem_append.1 hy with hy | hy
    · exact h.wts y hy
    · rw [List.mem_singleton.1 hy]; exact hx
  · intro e
    rcases hns bon e with h1 | h1
    · exact h.ne2 h1
    · have := hb.size; omega
  · rcases hns k hk with h1 | h1
    · exact .inl (.inr (.inr h1))
    · exact .inr (Nat.le_trans hb.size h1)
theorem DkS.stored {wv' : Value} {w2 : World} (h : DkS W bd bon n wv on wt acts wv' w2) : DkRes W bd bon n wv on wt (w2.setCell ⟨bd, 3, none⟩ wv') := by
  have hk : Kp (OnlyF bd) w2 (w2.setCell ⟨bd, 3, none⟩ wv') := Kp.set_only _ _ _ _
  have hne : ¬ OnlyF bd bon := fun e => h.ne1 e.symm
  refine ⟨wv', acts, ⟨h.box.set_ 3 wv', fun i hi => rangeAt_kp (h.rng i hi) h.bl hk hne, there_kp h.thr h.bl hk hne, Nat.lt_of_lt_of_le h.bl hk.size, h.sec,
    owns_block h.own fun g hg => hk.block g (h.own.lt g hg).2 (fun e => own_ne h.own h.box (by decide) (by unfold OnlyF at e; rw [hg, e])), h.wts, h.ne1, h.ne2⟩, h.kp.setCell (.inl (.inl rfl)) _, fun k hk => ?_⟩
  rcases hk with h1 | h1 | h1
  · exact .inl (.inl h1)
  · exact .inl (.inr (.inl h1))
  · exact h.ns k h1
theorem DkRes.kp {on' : Nat → List Int} {wt' : List (List Int × Nat)} (h : DkRes W bd bon n wv on' wt' W') : Kp (dkF bd bon wv) W W' := by
  obtain ⟨_, _, _, h, _⟩ := h
  exact h
theorem DkRes.from_ {W1 : World} {on' : Nat → List Int} {wt' : List (List Int × Nat)} (h : DkRes W1 bd bon n wv on' wt' W') (hk : Kp (dkF bd bon wv) W W1) : DkRes W bd bon n wv on' wt' W' := by
  obtain ⟨wv', acts', h1, h2, h3⟩ := h
  exact ⟨wv', acts', h1, hk.same h2, fun k hk' => (h3 k hk').imp id (fun h => Nat.le_trans hk.size h)⟩
end
set_option maxHeartbeats 2000000 in
set_option maxRecDepth 20000 in
theorem write_any (bd bon n : Nat) (wv : Value) (on : Nat → List Int) (wt : List (List Int × Nat)) (acts : Int) (i : Nat) (A : Option Addr) (c : Nat) (xs : List Int) (W : World) (h : Dk W bd bon n wv on wt acts) (hi : i < n) (hl : wt.length ≤ 100000)
    (hm : Mem W W.heap.size A (bv xs)) (hx : xs.length = 512) (hy : Byt xs) (hsep : ∀ b off, A = some ⟨b, off, none⟩ → ¬ dkF bd bon wv b) :
    Calls Tryz.prog 98 #[.pointer (some ⟨bd, 0, none⟩), .int .i64 i, .slice A 512 c] W fun e W' => e = .returned (.int .i64 0) ∧ DkRes W bd bon n wv on (wt ++ [(xs, i)]) W' := by
  obtain ⟨i0, hi0, hz0, hz1, hz2⟩ := infoWr
  have HD := hide h
  obtain ⟨A0, cw, rfl⟩ := owns_slice h.own
  have HP := hide (power_any bd W (h.box.cell 4))
  have HH := fun W' (hb : Below W.heap.size W W') => hide (has_any bd n n i _ W' ((h.below hb).box.cell 2) hi)
  have HU := fun W' => hide (unless_any true 2 W')
  have HFi := fun (W' : World) => hide (show Calls Tryz.prog 82 #[.slice (some ⟨W'.heap.size, 0, none⟩) 3 3] (W'.alloc (.cells #[.int .i64 0, .int .i64 0, .int .i64 0] 34)) (fun e w' => e = .returned (.int .i64 0) ∧ W'.alloc (.cells #[.int .i64 0, .int .i64 0, .int .i64 0] 34) = w') from first_any W'.heap.size [0, 0, 0] 3 (W'.alloc (.cells #[.int .i64 0, .int .i64 0, .int .i64 0] 34)) (fun i hi => by
    have := (Whole.new W' [.int .i64 0, .int .i64 0, .int .i64 0] 34).cell i
    rw [this]
    have h2 : i < 3 := hi
    have : i = 0 ∨ i = 1 ∨ i = 2 := by omega
    rcases this with rfl | rfl | rfl <;> rfl) (by decide))
  obtain ⟨b, off, rfl, hbl, hcx⟩ := byt_at hm (show 0 < xs.length by omega)
  have HRx := hide (show W.rangeAt b off (bv xs) from fun j v hv => by
    obtain ⟨hj, hv'⟩ := List.getElem?_eq_some_iff.1 hv
    rw [bv_len] at hj
    rw [hcx j hj, ← hv', bv_get xs j hj])
  have HSep := hide (hsep b off rfl)
  have HX := hide (show ((xs, i) : List Int × Nat).1.length = 512 ∧ Byt ((xs, i) : List Int × Nat).1 ∧ ((xs, i) : List Int × Nat).2 < n from ⟨hx, hy, hi⟩)
  have HBl := hide hbl
  clear h hcx hm hsep hy
  go_enter Tryz.func98, Tryz.ntmps98
  go_wp2_with fail
  refine HP.out.mono ?_
  rintro e w1 ⟨rfl, hb1⟩
  have HB1 := hide hb1
  clear hb1
  go_wp2_with fail
  refine (HH _ HB1.out).out.mono ?_
  rintro e w2 ⟨rfl, rfl⟩
  go_wp2_with fail
  refine (HU _).out.mono ?_
  rintro e w2 ⟨rfl, rfl⟩
  go_wp2_with fail
  refine (HFi w1).out.mono ?_
  rintro e w2 ⟨rfl, rfl⟩
  have HB2 := hide (HB1.out.alloc HB1.out.size (.cells #[.int .i64 0, .int .i64 0, .int .i64 0] 34))
  clear HB1
  generalize w1.alloc (.cells #[.int .i64 0, .int .i64 0, .int .i64 0] 34) = w2 at *
  have HD2 := hide (HD.out.below HB2.out)
  go_wp2_with fail
  refine (act_any bd acts w2 (HD2.out.box.cell 0) (HD2.out.box.cell 5) (HD2.out.box.frozen 5)).mono ?_
  rintro e w3 ⟨rfl, rfl⟩
  have HD3 := hide (HD2.out.acted (IntKind.u64.wrap (acts + 1)))
  have HK3 := hide (show Kp (dkF bd bon (.slice A0 wt.length cw)) W (w2.setCell ⟨bd, 5, none⟩ (.int .u64 (IntKind.u64.wrap (acts + 1)))) from (Kp.of_below HB2.out).setCell (.inl (.inl rfl)) _)
  generalize w2.setCell ⟨bd, 5, none⟩ (.int .u64 (IntKind.u64.wrap (acts + 1))) = w3 at *
  generalize IntKind.u64.wrap (acts + 1) = acts3 at *
  clear HD2 HB2
  have HR3 := hide (rangeAt_kp HRx.out HBl.out HK3.out HSep.out)
  have HBl3 := hide (Nat.lt_of_lt_of_le HBl.out HK3.out.size)
  clear HRx HBl
  go_upto_region 7 with fail
  have hxl : (bv xs).length = 512 := by rw [bv_len, hx]
  have HI := hide (show (Tryz.prog.info? 177).map (·.size) = some (bv xs).length from by rw [hxl]; exact secInfo)
  have HIs := hide (show (bv xs).length = 512 from hxl)
  clear hxl
  have har := fun W' => run_arrayAt (P := Tryz.prog) W' 177 5 512 (some ⟨b, off, none⟩) 512 c Tryz.underlying177 (Nat.le_refl _)
  refine wp_region_held_drew (S := (fun w' => Kp (dkF bd bon (.slice A0 wt.length cw)) w3 w')) (by kernel_rfl) ((Kp.refl _ _).drew) (fun hHeld => ?_)
  have hHeldB : Below w3.heap.size w3 w3.drew := (Below.refl _ _).drew
  generalize w3.drew = wd at *
  refine wpAnyH_take (i := 0) (v := ?vq1) rfl (by kernel_rfl) (by kernel_rfl) (by kernel_rfl) (fun _ _ _ h => h) (Or.inl ⟨by rfl, ?hq1⟩) (by assumption) ?rq1
  case hq1 => (intro wq hSw; go_simp; (try with_reducible rfl))
  try simp only [Act.put, List.getElem_toArray, List.getElem_cons_zero, List.setIfInBounds_toArray, List.set_cons_zero, List.set_cons_succ]
  refine wpAnyH_take (i := 1) (v := ?vq2) rfl (by kernel_rfl) (by kernel_rfl) (by kernel_rfl) (fun _ _ _ h => h) (Or.inl ⟨by rfl, ?hq2⟩) (by assumption) ?rq2
  case hq2 => (intro wq hSw; go_simp; (try with_reducible rfl))
  try simp only [Act.put, List.getElem_toArray, List.getElem_cons_zero, List.getElem_cons_succ, List.setIfInBounds_toArray, List.set_cons_zero, List.set_cons_succ]
  refine wpAnyH_take (i := 2) (v := ?vq3) rfl (by kernel_rfl) (by kernel_rfl) (by kernel_rfl) (fun _ _ _ h => h) (Or.inl ⟨by rfl, ?hq3⟩) (by assumption) ?rq3
  case hq3 => (intro wq hSw; go_simp; (try with_reducible rfl))
  try simp only [Act.put, List.getElem_toArray, List.getElem_cons_zero, List.getElem_cons_succ, List.setIfInBounds_toArray, List.set_cons_zero, List.set_cons_succ]
  refine wpAnyH_take (i := 3) (v := ?vq4) rfl (by kernel_rfl) (by kernel_rfl) (by kernel_rfl) (fun _ _ _ h => h) (Or.inl ⟨by rfl, ?hq4⟩) (by assumption) ?rq4
  case hq4 => (intro wq hSw; go_simp; (try with_reducible rfl))
  try simp only [Act.put, List.getElem_toArray, List.getElem_cons_zero, List.getElem_cons_succ, List.setIfInBounds_toArray, List.set_cons_zero, List.set_cons_succ]
  refine wpAnyH_take (i := 5) (v := ?vq5) rfl (by kernel_rfl) (by kernel_rfl) (by kernel_rfl) (fun _ _ _ h => h) (Or.inl ⟨by rfl, ?hq5⟩) (by assumption) ?rq5
  case hq5 => (intro wq hSw; go_simp; (try with_reducible rfl))
  try simp only [Act.put, List.getElem_toArray, List.getElem_cons_zero, List.getElem_cons_succ, List.setIfInBounds_toArray, List.set_cons_zero, List.set_cons_succ]
  refine wpAnyH_take (i := 6) (v := ?vq6) rfl (by kernel_rfl) (by kernel_rfl) (by kernel_rfl) (fun _ _ _ h => h) (Or.inl ⟨by rfl, ?hq6⟩) (by assumption) ?rq6
  case hq6 => (intro wq hSw; go_simp; (try with_reducible rfl))
  try simp only [Act.put, List.getElem_toArray, List.getElem_cons_zero, List.getElem_cons_succ, List.setIfInBounds_toArray, List.set_cons_zero, List.set_cons_succ]
  refine wpAnyH_take (i := 7) (v := .agg (bv xs).toArray) rfl (by kernel_rfl) (by kernel_rfl) (by kernel_rfl) (fun _ _ _ h => h) (Or.inl ⟨by rfl, ?h7⟩) (by assumption) ?r7
  case h7 => exact fun wq hSw => exec_load_mid wq 177 _ rfl b off rfl (bv xs) _ (rangeAt_kp HR3.out HBl3.out hSw HSep.out) Tryz.underlying177 rfl HI.out
  try simp only [Act.put, List.getElem_toArray, List.getElem_cons_zero, List.getElem_cons_succ, List.setIfInBounds_toArray, List.set_cons_zero, List.set_cons_succ]
  refine wpAnyH_take (i := 8) (v := ?vq7) rfl (by kernel_rfl) (by kernel_rfl) (by kernel_rfl) (fun _ _ _ h => h) (Or.inl ⟨by rfl, ?hq7⟩) (by assumption) ?rq7
  case hq7 => (intro wq hSw; go_simp; (try with_reducible rfl))
  try simp only [Act.put, List.getElem_toArray, List.getElem_cons_zero, List.getElem_cons_succ, List.setIfInBounds_toArray, List.set_cons_zero, List.set_cons_succ]
  refine wpAnyH_take (i := 9) (v := .agg (wrC (xs, i)).toArray) rfl (by kernel_rfl) (by kernel_rfl) (by kernel_rfl) (fun _ _ _ h => h) (Or.inl ⟨by rfl, ?h9⟩) (by assumption) ?r9
  case h9 => exact fun wq hSw => exec_build wq 179 _ rfl #[(0, .agg (bv xs).toArray), (1, .int .i64 i)] (by simp only [List.map_toArray, List.map_cons, List.map_nil]; rfl) _ (wr_built xs i hx wq)
  try simp only [Act.put, List.getElem_toArray, List.getElem_cons_zero, List.getElem_cons_succ, List.setIfInBounds_toArray, List.set_cons_zero, List.set_cons_succ]
  have HWl := hide (wrC_len (x := (xs, i)) hx)
  have HWo := hide (wrC_one (xs, i))
  have HDd := hide (HD3.out.below (show Below w3.heap.size w3 wd from hHeldB))
  refine wpAnyH_ready (rs := [4, 10]) (by kernel_rfl) (by simp) ?_
  refine AllReadyH.cons (o := _) rfl (fun K hK => ?_) ?_
  · skip
    have c0 := HDd.out.box.cell 3
    go_simp
    refine hK.out _ _ (hHeld) (fun hHeld => ?_)
    clear hK K c0
    try simp only [Act.put, List.getElem_toArray, List.getElem_cons_zero, List.getElem_cons_succ, List.setIfInBounds_toArray, List.set_cons_zero, List.set_cons_succ]
    refine wpAnyH_ready (rs := [10]) (by kernel_rfl) (by simp) ?_
    refine AllReadyH.cons (o := _) rfl (fun K hK => ?_) ?_
    · skip
      refine step_buildSlice (by rfl) 74 1 _ (by rfl) #[(0, .agg (wrC (xs, i)).toArray)] (by simp only [List.map_toArray, List.map_cons, List.map_nil]; rfl) _ (wr_slice (xs, i) hx wd) ?_
      have hb5 : Below w3.heap.size w3 (wd.alloc (.cells (wrC (xs, i)).toArray 179)) := hHeldB.alloc hHeldB.size _
      have hM5 := (Whole.new wd (wrC (xs, i)) 179).mem
      change Mem (wd.alloc (.cells (wrC (xs, i)).toArray 179)) _ _ _ at hM5
      have HB5 := hide hb5
      have HM5 := hide hM5
      have HD5 := hide (HD3.out.below hb5)
      refine hK.out _ _ (Kp.of_below hb5) (fun hHeld => ?_)
      clear hK K hb5 hM5 HDd
      try simp only [Act.put, List.getElem_toArray, List.getElem_cons_zero, List.getElem_cons_succ, List.setIfInBounds_toArray, List.set_cons_zero, List.set_cons_succ]
      generalize wd.alloc (.cells (wrC (xs, i)).toArray 179) = w5 at *
      generalize wd.heap.size = b5 at *
      refine wpAnyH_ready (rs := [11]) (by kernel_rfl) (by simp) ?_
      refine AllReadyH.cons (o := _) rfl (fun K hK => ?_) ?_
      · skip
        refine step_app _ (by rfl) _ _ _ (by rfl) 0 179 i0 (.agg Tryz.zeroCells179) 513 520 Tryz.underlying74 hi0 hz0 hz1 hz2 zwr (by decide) (.slice A0 wt.length cw) wt.length (wtC wt) (by rfl) HD5.out.own (some ⟨b5, 0, none⟩) 1 1 (wrC (xs, i)) (by rfl) HWl.out HM5.out HWo.out (by unfold maxLen; omega) (by omega) (Nat.zero_le _) ?_
        intro A' q' w6 ho hg hns
        have HS := hide (dkS (HD3.out.bl) HB5.out HD5.out HX.out ho hg hns)
        clear ho hg hns
        refine hK.out _ _ (HS.out.kp) (fun hHeld => ?_)
        clear hK K 
        try simp only [Act.put, List.getElem_toArray, List.getElem_cons_zero, List.getElem_cons_succ, List.setIfInBounds_toArray, List.set_cons_zero, List.set_cons_succ]
        refine wpAnyH_take (i := 12) (v := ?vq8) rfl (by kernel_rfl) (by kernel_rfl) (by kernel_rfl) (fun _ _ _ h => h) (Or.inl ⟨by rfl, ?hq8⟩) (by assumption) ?rq8
        case hq8 => (intro wq hSw; go_simp; (try with_reducible rfl))
        try simp only [Act.put, List.getElem_toArray, List.getElem_cons_zero, List.getElem_cons_succ, List.setIfInBounds_toArray, List.set_cons_zero, List.set_cons_succ]
        refine wpAnyH_take (i := 13) (v := ?vq9) rfl (by kernel_rfl) (by kernel_rfl) (by kernel_rfl) (fun _ _ _ h => h) (Or.inl ⟨by rfl, ?hq9⟩) (by assumption) ?rq9
        case hq9 => (intro wq hSw; go_simp; (try with_reducible rfl))
        try simp only [Act.put, List.getElem_toArray, List.getElem_cons_zero, List.getElem_cons_succ, List.setIfInBounds_toArray, List.set_cons_zero, List.set_cons_succ]
        refine wpAnyH_ready (rs := [14]) (by kernel_rfl) (by simp) ?_
        refine AllReadyH.cons (o := _) rfl (fun K hK => ?_) ?_
        · skip
          have o1 := HS.out.box.cell 3
          have f1 := HS.out.box.frozen 3
          go_simp
          have HE := hide HS.out.stored
          refine hK.out _ _ (HE.out.kp) (fun hHeld => ?_)
          clear hK K o1 f1
          try simp only [Act.put, List.getElem_toArray, List.getElem_cons_zero, List.getElem_cons_succ, List.setIfInBounds_toArray, List.set_cons_zero, List.set_cons_succ]
          refine wpAnyH_done (by kernel_rfl) ?_ _
          go_wp2_with fail
          go_ret
          exact ⟨rfl, HE.out.from_ HK3.out⟩
        exact AllReadyH.nil
      exact AllReadyH.nil
    exact AllReadyH.nil
  refine AllReadyH.cons (o := _) rfl (fun K hK => ?_) ?_
  · skip
    refine step_buildSlice (by rfl) 74 1 _ (by rfl) #[(0, .agg (wrC (xs, i)).toArray)] (by simp only [List.map_toArray, List.map_cons, List.map_nil]; rfl) _ (wr_slice (xs, i) hx wd) ?_
    have hb5 : Below w3.heap.size w3 (wd.alloc (.cells (wrC (xs, i)).toArray 179)) := hHeldB.alloc hHeldB.size _
    have hM5 := (Whole.new wd (wrC (xs, i)) 179).mem
    change Mem (wd.alloc (.cells (wrC (xs, i)).toArray 179)) _ _ _ at hM5
    have HB5 := hide hb5
    have HM5 := hide hM5
    have HD5 := hide (HD3.out.below hb5)
    refine hK.out _ _ (Kp.of_below hb5) (fun hHeld => ?_)
    clear hK K hb5 hM5 HDd
    try simp only [Act.put, List.getElem_toArray, List.getElem_cons_zero, List.getElem_cons_succ, List.setIfInBounds_toArray, List.set_cons_zero, List.set_cons_succ]
    generalize wd.alloc (.cells (wrC (xs, i)).toArray 179) = w5 at *
    generalize wd.heap.size = b5 at *
    refine wpAnyH_ready (rs := [4]) (by kernel_rfl) (by simp) ?_
    refine AllReadyH.cons (o := _) rfl (fun K hK => ?_) ?_
    · skip
      have c0 := HD5.out.box.cell 3
      go_simp
      refine hK.out _ _ (hHeld) (fun hHeld => ?_)
      clear hK K c0
      try simp only [Act.put, List.getElem_toArray, List.getElem_cons_zero, List.getElem_cons_succ, List.setIfInBounds_toArray, List.set_cons_zero, List.set_cons_succ]
      refine wpAnyH_ready (rs := [11]) (by kernel_rfl) (by simp) ?_
      refine AllReadyH.cons (o := _) rfl (fun K hK => ?_) ?_
      · skip
        refine step_app _ (by rfl) _ _ _ (by rfl) 0 179 i0 (.agg Tryz.zeroCells179) 513 520 Tryz.underlying74 hi0 hz0 hz1 hz2 zwr (by decide) (.slice A0 wt.length cw) wt.length (wtC wt) (by rfl) HD5.out.own (some ⟨b5, 0, none⟩) 1 1 (wrC (xs, i)) (by rfl) HWl.out HM5.out HWo.out (by unfold maxLen; omega) (by omega) (Nat.zero_le _) ?_
        intro A' q' w6 ho hg hns
        have HS := hide (dkS (HD3.out.bl) HB5.out HD5.out HX.out ho hg hns)
        clear ho hg hns
        refine hK.out _ _ (HS.out.kp) (fun hHeld => ?_)
        clear hK K 
        try simp only [Act.put, List.getElem_toArray, List.getElem_cons_zero, List.getElem_cons_succ, List.setIfInBounds_toArray, List.set_cons_zero, List.set_cons_succ]
        refine wpAnyH_take (i := 12) (v := ?vq10) rfl (by kernel_rfl) (by kernel_rfl) (by kernel_rfl) (fun _ _ _ h => h) (Or.inl ⟨by rfl, ?hq10⟩) (by assumption) ?rq10
        case hq10 => (intro wq hSw; go_simp; (try with_reducible rfl))
        try simp only [Act.put, List.getElem_toArray, List.getElem_cons_zero, List.getElem_cons_succ, List.setIfInBounds_toArray, List.set_cons_zero, List.set_cons_succ]
        refine wpAnyH_take (i := 13) (v := ?vq11) rfl (by kernel_rfl) (by kernel_rfl) (by kernel_rfl) (fun _ _ _ h => h) (Or.inl ⟨by rfl, ?hq11⟩) (by assumption) ?rq11
        case hq11 => (intro wq hSw; go_simp; (try with_reducible rfl))
        try simp only [Act.put, List.getElem_toArray, List.getElem_cons_zero, List.getElem_cons_succ, List.setIfInBounds_toArray, List.set_cons_zero, List.set_cons_succ]
        refine wpAnyH_ready (rs := [14]) (by kernel_rfl) (by simp) ?_
        refine AllReadyH.cons (o := _) rfl (fun K hK => ?_) ?_
        · skip
          have o1 := HS.out.box.cell 3
          have f1 := HS.out.box.frozen 3
          go_simp
          have HE := hide HS.out.stored
          refine hK.out _ _ (HE.out.kp) (fun hHeld => ?_)
          clear hK K o1 f1
          try simp only [Act.put, List.getElem_toArray, List.getElem_cons_zero, List.getElem_cons_succ, List.setIfInBounds_toArray, List.set_cons_zero, List.set_cons_succ]
          refine wpAnyH_done (by kernel_rfl) ?_ _
          go_wp2_with fail
          go_ret
          exact ⟨rfl, HE.out.from_ HK3.out⟩
        exact AllReadyH.nil
      exact AllReadyH.nil
    exact AllReadyH.nil
  exact AllReadyH.nil
end Go.Proofs.YtnnfiicmplkakaaGreatDoor
namespace Go.Proofs.YtnnfiicmplkakaaGreatDoor
open Go.RowKit Go.Shelf

theorem Kp.setCells (b : Nat) : ∀ (vs : List Value) (o : Nat) (w : World), Kp (OnlyF b) w (w.setCells b o vs)
  | [], _, w => Kp.refl _ _
  | v :: r, o, w => by
    rw [World.setCells]
    exact (Kp.set_only w b o v).same (Kp.setCells b r (o + 1) _)
section
variable {W W' : World} {bd bon n : Nat} {wv : Value} {on : Nat → List Int} {wt : List (List Int × Nat)} {acts : Int}
theorem Dk.there_at (h : Dk W bd bon n wv on wt acts) {i : Nat} (hi : i < n) : W.there bon (i * 512) 512 := fun j hj => by
  have := h.thr (i * 512 + j) (by have : (i + 1) * 512 ≤ n * 512 := Nat.mul_le_mul_right _ hi; omega)
  rwa [Nat.zero_add] at this
theorem Dk.sector (h : Dk W bd bon n wv on wt acts) {x : List Int × Nat} (hx : x.1.length = 512 ∧ Byt x.1 ∧ x.2 < n) : Dk (W.setCells bon (x.2 * 512) (bv x.1)) bd bon n wv (fun i => if i = x.2 then x.1 else on i) wt acts := by
  have hk : Kp (OnlyF bon) W (W.setCells bon (x.2 * 512) (bv x.1)) := Kp.setCells bon _ _ W
  have hl : (bv x.1).length = 512 := by rw [bv_len]; exact hx.1
  have ht : W.there bon (x.2 * 512) (bv x.1).length := fun j hj => by
    rw [hl] at hj
    have := h.thr (x.2 * 512 + j) (by have : (x.2 + 1) * 512 ≤ n * 512 := Nat.mul_le_mul_right _ hx.2.2; omega)
    rwa [Nat.zero_add] at this
  refine ⟨h.box.kp hk (fun e => h.ne1 e), fun i hi => ?_, World.there_setCells h.thr _ _ _, Nat.lt_of_lt_of_le h.bl hk.size, fun i hi => ?_, owns_block h.own fun g hg => hk.block g (h.own.lt g hg).2 (fun e => h.ne2 (by unfold OnlyF at e; rw [hg, e])), h.wts, h.ne1, h.ne2⟩
  · by_cases e : i = x.2
    · subst e
      simp only [if_true]
      exact World.rangeAt_setCells_same W _ _ _ ht
    · simp only [if_neg e]
      have hi2 : (bv (on i)).length = 512 := by rw [bv_len]; exact (h.sec i hi).1
      exact World.rangeAt_setCells_apart (h.rng i hi) _ _ _ (.inr (by rw [hi2, hl]; omega))
  · by_cases e : i = x.2
    · simp only [if_pos e]; exact ⟨hx.1, hx.2.1⟩
    · simp only [if_neg e]; exact h.sec i hi
theorem Dk.emptied (h : Dk W bd bon n wv on wt acts) : Dk (W.setCell ⟨bd, 3, none⟩ (.slice none 0 0)) bd bon n (.slice none 0 0) on [] acts := by
  have hk : Kp (OnlyF bd) W (W.setCell ⟨bd, 3, none⟩ (.slice none 0 0)) := Kp.set_only _ _ _ _
  have hne : ¬ OnlyF bd bon := fun e => h.ne1 e.symm
  exact ⟨h.box.set_ 3 _, fun i hi => rangeAt_kp (h.rng i hi) h.bl hk hne, there_kp h.thr h.bl hk hne, Nat.lt_of_lt_of_le h.bl hk.size, h.sec, ⟨rfl, .inl ⟨rfl, rfl⟩⟩, (fun x hx => by cases hx), h.ne1, (fun e => by cases e)⟩
theorem Dk.on_eq {on' : Nat → List Int} (h : Dk W bd bon n wv on wt acts) (e : ∀ i, on' i = on i) : Dk W bd bon n wv on' wt acts := by
  obtain rfl : on' = on := funext e
  exact h
end
/-- behind Flush -/
def FlushRes (bd bon n : Nat) (wv : Value) (c : Nat → List Int) (W : World) (e : Ending) (W' : World) : Prop := e = .returned (.int .i64 0) ∧ (∃ acts', Dk W' bd bon n (.slice none 0 0) c [] acts') ∧ Kp (dkF bd bon wv) W W'
set_option maxHeartbeats 2000000 in
set_option maxRecDepth 20000 in
theorem flush_any (bd bon n : Nat) (wv : Value) (on : Nat → List Int) (wt : List (List Int × Nat)) (acts : Int) (W : World) (h : Dk W bd bon n wv on wt acts) (hl : wt.length ≤ 100000) :
    Calls Tryz.prog 99 #[.pointer (some ⟨bd, 0, none⟩)] W (FlushRes bd bon n wv (rd on wt) W) := by
  have HD := hide h
  obtain ⟨A0, cw, rfl⟩ := owns_slice h.own
  have HP := hide (power_any bd W (h.box.cell 4))
  clear h
  go_enter Tryz.func99, Tryz.ntmps99
  go_wp2_with fail
  refine HP.out.mono ?_
  rintro e w2 ⟨rfl, hb⟩
  have HB2 := hide hb
  have HD2 := hide (HD.out.below hb)
  clear hb
  go_wp2_with fail
  refine (act_any bd acts w2 (HD2.out.box.cell 0) (HD2.out.box.cell 5) (HD2.out.box.frozen 5)).mono ?_
  rintro e w3 ⟨rfl, rfl⟩
  have HD3 := hide (HD2.out.acted (IntKind.u64.wrap (acts + 1)))
  have HK3 := hide (show Kp (dkF bd bon (.slice A0 wt.length cw)) W (w2.setCell ⟨bd, 5, none⟩ (.int .u64 (IntKind.u64.wrap (acts + 1)))) from (Kp.of_below HB2.out).setCell (.inl (.inl rfl)) _)
  generalize w2.setCell ⟨bd, 5, none⟩ (.int .u64 (IntKind.u64.wrap (acts + 1))) = w3 at *
  generalize IntKind.u64.wrap (acts + 1) = acts3 at *
  clear HD2 HB2
  have c3 := HD3.out.box.cell 3
  go_wp2_with fail
  clear c3
  go_loopw [6, 22] (fun _ x wr => ∃ k : Nat, k ≤ wt.length ∧ x = .int .i64 k ∧ Dk wr bd bon n (.slice A0 wt.length cw) (rd on (wt.take k)) wt acts3 ∧ Kp (dkF bd bon (.slice A0 wt.length cw)) W wr) (fun _ x _ => wt.length - (intOf x).toNat)
  case atStart => exact ⟨0, Nat.zero_le _, rfl, HD3.out, HK3.out⟩
  case round =>
    obtain ⟨k, hk, rfl, hd, hkp⟩ := hrel
    have HDk := hide hd
    have HKp := hide hkp
    clear hd hkp
    by_cases hlt : k < wt.length
    · obtain ⟨g, cg, hgv, hgl, hrg⟩ := HDk.out.wrange k hlt
      injection hgv with hg1 _ hg3
      subst hg1 hg3
      have HG := hide hrg
      have hGo := HDk.out.wts _ (List.getElem_mem hlt)
      have HT := hide (show ∀ i, rd on (wt.take (k + 1)) i = if i = wt[k].2 then wt[k].1 else rd on (wt.take k) i from rd_take on wt k hlt)
      clear hrg
      have hwl := wrC_len hGo.1
      have h512 : (wrC wt[k])[512]? = some (.int .i64 (wt[k].2 : Int)) := by
        have e : (bv wt[k].1).length = 512 := by rw [bv_len]; exact hGo.1
        rw [wrC, List.getElem?_append_right (by omega), e]
        rfl
      have HC := hide (show (wr.alloc (.cells (wrC wt[k]).toArray 179)).cell? ⟨wr.heap.size, 512, none⟩ = some (.int .i64 (wt[k].2 : Int)) from ((Whole.new wr (wrC wt[k]) 179).cell 512).trans h512)
      have HRw := hide (show (wr.alloc (.cells (wrC wt[k]).toArray 179)).rangeAt wr.heap.size 0 (bv wt[k].1) from fun j v hv => by
        have hj : j < 512 := by have := (List.getElem?_eq_some_iff.1 hv).1; rw [bv_len] at this; omega
        rw [Nat.zero_add]
        refine ((Whole.new wr (wrC wt[k]) 179).cell j).trans ?_
        rw [wrC, List.getElem?_append_left (by rw [bv_len]; omega)]
        exact hv)
      have hbl : (bv wt[k].1).length = 512 := by rw [bv_len]; exact hGo.1
      have HIs := hide (show (Tryz.prog.info? 177).map (·.size) = some (bv wt[k].1).length from by rw [hbl]; exact secInfo)
      have HOs := hide (all_oneCell_toArray (bv_one wt[k].1))
      have HI := hide (show (Tryz.prog.info? 179).map (·.size) = some (wrC wt[k]).length from by rw [hwl]; exact wrInfo)
      have HI2 := hide (show (Tryz.prog.info? 179).map (·.size) = some (wrC wt[k]).toArray.size from HI.out)
      have HZ := hide (show Tryz.zeroCells179.size = (wrC wt[k]).toArray.size from zwr.trans (by rw [List.size_toArray, hwl]))
      have HOne := hide (all_oneCell_toArray (wrC_one wt[k]))
      have HGo := hide hGo
      have hat := hGo.2.2
      clear hGo hwl h512 hbl
      generalize wrC wt[k] = cs at *
      generalize wt[k] = x at *
      go_upto_region 10 with (first | (refine wpList_load_mid rfl 179 _ rfl g (k * 513) rfl cs _ HG.out Tryz.underlying179 rfl HI.out ?_) | (refine wpList_store_new wr rfl 179 _ _ rfl Tryz.zeroCells179 cs.toArray rfl rfl HI2.out HZ.out HOne.out ?_))
      have hb4 : Below wr.heap.size wr (wr.alloc (.cells cs.toArray 179)) := (Below.refl _ _).alloc (Nat.le_refl _) _
      have HD4 := hide (HDk.out.below hb4)
      have HK4 := hide (HKp.out.same (Kp.of_below hb4))
      have hbw : wr.heap.size < (wr.alloc (.cells cs.toArray 179)).heap.size := by simp
      have hnb : ¬ wr.heap.size = bon := by have := HDk.out.bl; omega
      clear hb4
      generalize wr.alloc (.cells cs.toArray 179) = w4 at *
      generalize wr.heap.size = bw at *
      have d2 := HD4.out.box.cell 2
      have hbd := HD4.out.box.lt
      have hne1 := HD4.out.ne1
      have f1 := HC.out
      refine wp_region_held_drew (S := (fun w' => Kp (OnlyF bon) w4 w')) (by kernel_rfl) ((Kp.refl _ _).drew) (fun hHeld => ?_)
      have HDd := hide (HD4.out.below ((Below.refl _ _).drew))
      have HKd := hide (HK4.out.drew)
      generalize w4.drew = wd at *
      refine wpAnyH_take (i := 0) (v := ?vq1) rfl (by kernel_rfl) (by kernel_rfl) (by kernel_rfl) (fun _ _ _ h => h) (Or.inl ⟨by rfl, ?hq1⟩) (by assumption) ?rq1
      case hq1 => (intro wq hSw; go_simp; (try with_reducible rfl))
      try simp only [Act.put, List.getElem_toArray, List.getElem_cons_zero, List.setIfInBounds_toArray, List.set_cons_zero, List.set_cons_succ]
      refine wpAnyH_take (i := 1) (v := ?vq2) rfl (by kernel_rfl) (by kernel_rfl) (by kernel_rfl) (fun _ _ _ h => h) (Or.inl ⟨by rfl, ?hq2⟩) (by assumption) ?rq2
      case hq2 => (intro wq hSw; go_simp; (try with_reducible rfl))
      try simp only [Act.put, List.getElem_toArray, List.getElem_cons_zero, List.getElem_cons_succ, List.setIfInBounds_toArray, List.set_cons_zero, List.set_cons_succ]
      refine wpAnyH_take (i := 2) (v := ?vq3) rfl (by kernel_rfl) (by kernel_rfl) (by kernel_rfl) (fun _ _ _ h => h) (Or.inl ⟨by rfl, ?hq3⟩) (by assumption) ?rq3
      case hq3 => (intro wq hSw; go_simp; (try with_reducible rfl))
      try simp only [Act.put, List.getElem_toArray, List.getElem_cons_zero, List.getElem_cons_succ, List.setIfInBounds_toArray, List.set_cons_zero, List.set_cons_succ]
      refine wpAnyH_take (i := 3) (v := ?vq4) rfl (by kernel_rfl) (by kernel_rfl) (by kernel_rfl) (fun _ _ _ h => h) (Or.inl ⟨by rfl, ?hq4⟩) (by assumption) ?rq4
      case hq4 => (intro wq hSw; have e := (hSw.cell (p := ⟨bd, 2, none⟩) hbd hne1).trans d2; go_simp; (try with_reducible rfl))
      try simp only [Act.put, List.getElem_toArray, List.getElem_cons_zero, List.getElem_cons_succ, List.setIfInBounds_toArray, List.set_cons_zero, List.set_cons_succ]
      refine wpAnyH_take (i := 4) (v := ?vq5) rfl (by kernel_rfl) (by kernel_rfl) (by kernel_rfl) (fun _ _ _ h => h) (Or.inl ⟨by rfl, ?hq5⟩) (by assumption) ?rq5
      case hq5 => (intro wq hSw; go_simp; (try with_reducible rfl))
      try simp only [Act.put, List.getElem_toArray, List.getElem_cons_zero, List.getElem_cons_succ, List.setIfInBounds_toArray, List.set_cons_zero, List.set_cons_succ]
      refine wpAnyH_take (i := 5) (v := ?vq6) rfl (by kernel_rfl) (by kernel_rfl) (by kernel_rfl) (fun _ _ _ h => h) (Or.inl ⟨by rfl, ?hq6⟩) (by assumption) ?rq6
      case hq6 => (intro wq hSw; have e := (hSw.cell (p := ⟨bw, 512, none⟩) hbw hnb).trans f1; go_simp; (try with_reducible rfl))
      try simp only [Act.put, List.getElem_toArray, List.getElem_cons_zero, List.getElem_cons_succ, List.setIfInBounds_toArray, List.set_cons_zero, List.set_cons_succ]
      refine wpAnyH_take (i := 6) (v := ?vq7) rfl (by kernel_rfl) (by kernel_rfl) (by kernel_rfl) (fun _ _ _ h => h) (Or.inl ⟨by rfl, ?hq7⟩) (by assumption) ?rq7
      case hq7 => (intro wq hSw; go_simp; (try with_reducible rfl))
      try simp only [Act.put, List.getElem_toArray, List.getElem_cons_zero, List.getElem_cons_succ, List.setIfInBounds_toArray, List.set_cons_zero, List.set_cons_succ]
      refine wpAnyH_take (i := 7) (v := .agg (bv x.1).toArray) rfl (by kernel_rfl) (by kernel_rfl) (by kernel_rfl) (fun _ _ _ h => h) (Or.inl ⟨by rfl, ?h7⟩) (by assumption) ?r7
      case h7 => exact fun wq hSw => exec_load_mid wq 177 _ rfl bw 0 rfl (bv x.1) _ (rangeAt_kp HRw.out hbw hSw hnb) Tryz.underlying177 rfl HIs.out
      try simp only [Act.put, List.getElem_toArray, List.getElem_cons_zero, List.getElem_cons_succ, List.setIfInBounds_toArray, List.set_cons_zero, List.set_cons_succ]
      refine wpAnyH_take (i := 8) (v := ?vq8) rfl (by kernel_rfl) (by kernel_rfl) (by kernel_rfl) (fun _ _ _ h => h) (Or.inl ⟨by rfl, ?hq8⟩) (by assumption) ?rq8
      case hq8 => (intro wq hSw; go_simp; (try with_reducible rfl))
      try simp only [Act.put, List.getElem_toArray, List.getElem_cons_zero, List.getElem_cons_succ, List.setIfInBounds_toArray, List.set_cons_zero, List.set_cons_succ]
      refine wpAnyH_ready (rs := [9]) (by kernel_rfl) (by simp) ?_
      refine AllReadyH.cons (o := _) rfl (fun K hK => ?_) ?_
      · skip
        refine step_store_mid (by rfl) 177 _ _ (by rfl) bon (x.2 * 512) (bv x.1).toArray (by rfl) (by rfl) ?ht HIs.out HOs.out ?_
        case ht => rw [List.size_toArray, bv_len, HGo.out.1]; exact HDd.out.there_at HGo.out.2.2
        have HE := hide ((HDd.out.sector HGo.out).on_eq HT.out)
        have HKe := hide (HKd.out.same ((Kp.setCells bon (bv x.1) (x.2 * 512) wd).mono fun i hi => .inl (.inr (.inl hi))))
        refine hK.out _ _ (hHeld.same (Kp.setCells bon (bv x.1) (x.2 * 512) wd)) (fun hHeld => ?_)
        clear hK K
        try simp only [Act.put, List.getElem_toArray, List.getElem_cons_zero, List.getElem_cons_succ, List.setIfInBounds_toArray, List.set_cons_zero, List.set_cons_succ]
        refine wpAnyH_done (by kernel_rfl) ?_ _
        go_wp2_with fail
        go_roundw
        case rel => exact ⟨k + 1, hlt, by go_num, HE.out, HKe.out⟩
        case measure => simp [intOf]; omega
      exact AllReadyH.nil
    · obtain rfl : k = wt.length := by omega
      have c3 := HDk.out.box.cell 3
      have f3 := HDk.out.box.frozen 3
      rw [List.take_length] at HDk
      go_wp2_with fail
      go_ret
      exact ⟨rfl, ⟨acts3, HDk.out.emptied⟩, HKp.out.setCell (.inl (.inl rfl)) _⟩
end Go.Proofs.YtnnfiicmplkakaaGreatDoor
