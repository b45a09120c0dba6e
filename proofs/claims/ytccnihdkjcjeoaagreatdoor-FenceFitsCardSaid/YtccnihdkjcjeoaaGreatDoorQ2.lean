/- Walk of disk.Write. Walk of disk.Flush. Walk of crc.Sum: the checksum, as the program's own operations reckon it. DERIVED: THE SHELF's CONTRACTS AT THIS DUMP, IN PLAIN WORDS (tools/lay-plain.mjs out of 'YtccnihdkjcjeoaaGreatDoorShelf0.lean', which tools/lay-shelf.mjs wrote): THE SAME DECLARATIONS UNDER THE SAME NAMES: 'import', 'namespace', 'open', 'def', 'theorem' AND NOTHING ELSE: no command of the shelf's: FOR A HAND-IN. Each laying: the table of numbers ('.._ren') and one theorem, a field a fact of the dump's own or the kernel's comparison; each contract: ONE APPLICATION. What is taken off the shelf: strings.Repeat of a zero byte, math/bits.TrailingZeros64; bytes.Equal. Walk of (head).put: a head's sector. Walk of wal.take: the head of a sector. Walk of sheet.Put: a sheet's sector. -/
import Derived.Test.YtccnihdkjcjeoaaGreatDoorQ1
import Derived.Deep.RegionHeld3
import Derived.Deep.AppendLies
import Derived.Laws.Cover3
import Derived.Laws.Closers25b
import Derived.Shelf.Spec.TrailingZeros
import Derived.Shelf.Strings.Repeat
import Derived.Ground.NamesProg
import Derived.Ground.Names7Prog
import Derived.Test.YtccnihdkjcjeoaaGreatDoorProg
import Derived.Deep.DeepCutAuto
namespace Go.Proofs.YtccnihdkjcjeoaaGreatDoor
open Go.RowKit Go.Shelf

theorem infoWr : ∃ i, Tryz.prog.info? 141 = some i ∧ i.zero = some (.agg Tryz.zeroCells141) ∧ i.size = 513 ∧ i.bytes = 520 := by
  have h : (Tryz.prog.info? 141).map (fun i => (i.zero, i.size, i.bytes)) = some (some (.agg Tryz.zeroCells141), 513, 520) := by kernel_rfl
  exact info_parts h
/-- a load of a whole row, as a held region takes it first -/
theorem exec_load_mid {P : Program} {op : Oper} {a : Act} (w : World) (ty : TypeId) (x : Operand) (ho : op.op = .load ty x) (b o : Nat) (hx : a.eval x = .pointer (some ⟨b, o, none⟩)) (cs : List Value) (d : TypeDesc) (hS : w.rangeAt b o cs)
    (hu : P.underlying ty = some d) (hd : d.isRow = true) (hi : (P.info? ty).map (·.size) = some cs.length) : (execOp a.eval op).run P w = .ok (.value (.agg cs.toArray)) w := by
  unfold execOp
  simp only [ho, hx, Instr.loadAt, Instr.sureAddr, Sem.run_bind, Sem.run_pure, Result.andThen_ok, run_loadVar_mid w b o ty cs d hS hu hd hi]
section
variable {W W' : World} {bd bon n : Nat} {wv : Value} {on : Nat → List Int} {wt : List (List Int × Nat)} {acts : Int}
/-- the disk behind something that it does: what it owns is what it owned, or new -/
def DkRes (W : World) (bd bon n : Nat) (wv : Value) (on' : Nat → List Int) (wt' : List (List Int × Nat)) (W' : World) : Prop :=
  ∃ wv' acts', Dk W' bd bon n wv' on' wt' acts' ∧ Kp (dkF bd bon wv) W W' ∧ ∀ k, dkF bd bon wv' k → dkF bd bon wv k ∨ W.heap.size ≤ k
theorem Dk.acted (h : Dk W bd bon n wv on wt acts) (a : Int) : Dk (W.setCell ⟨bd, 5, none⟩ (.int .u64 a)) bd bon n wv on wt a := by
  have hk : Kp (OnlyF bd) W (W.setCell ⟨bd, 5, none⟩ (.int .u64 a)) := Kp.set_only _ _ _ _
  have hne : ¬ OnlyF bd bon := fun e => h.ne1 e.symm
  exact ⟨h.box.set_ 5 _, fun i hi => rangeAt_kp (h.rng i hi) h.bl hk hne, there_kp h.thr h.bl hk hne, Nat.lt_of_lt_of_le h.bl hk.size, h.sec,
    owns_block h.own fun g hg => hk.block g (h.own.lt g hg).2 (fun e => own_ne h.own h.box (by decide) (by unfold OnlyF at e; rw [hg, e])), h.wts, h.ne1, h.ne2⟩
/-- behind the append, ahead of the store -/
structure DkS (W : World) (bd bon n : Nat) (wv : Value) (on : Nat → List Int) (wt' : List (List Int × Nat)) (acts : Int) (wv' : Value) (w2 : World) : Prop where
  kp : Kp (dkF bd bon wv) W w2
  box : Whole w2 bd 49 [.int .i64 (-1), .string ⟨#[]⟩, .slice (some ⟨bon, 0, none⟩) n n, wv, .bool false, .int .u64 acts]
  rng : ∀ i, i < n → w2.rangeAt bon (i * 512) (bv (on i))
  thr : w2.there bon 0 (n * 512)
  bl : bon < w2.heap.size
  sec : ∀ i, i < n → (on i).length = 512 ∧ Byt (on i)
  own : w2.ownsRow 0 141 513 wv' wt'.length (wtC wt')
  wts : GoodW n wt'
  ne1 : bd ≠ bon
  ne2 : wv'.ownBlock ≠ some bon
  ns : ∀ k, wv'.ownBlock = some k → dkF bd bon wv k ∨ W.heap.size ≤ k
theorem dkS {w1 w2 : World} {A' : Option Addr} {q' : Nat} {x : List Int × Nat} (h0 : bon < W.heap.size) (hb : Below W.heap.size W w1) (h : Dk w1 bd bon n wv on wt acts) (hx : x.1.length = 512 ∧ Byt x.1 ∧ x.2 < n)
    (ho : w2.ownsRow 0 141 513 (.slice A' (wt.length + 1) q') (wt.length + 1) (wtC wt ++ wrC x))
    (hg : w1.grownBy w2 wv.ownBlock) (hns : ∀ g, (Value.slice A' (wt.length + 1) q').ownBlock = some g → wv.ownBlock = some g ∨ w1.heap.size ≤ g) : DkS W bd bon n wv on (wt ++ [x]) acts (.slice A' (wt.length + 1) q') w2 := by
  have hk : Kp (OwnF wv) w1 w2 := (Kp.refl _ _).grown hg fun k hk => .inl hk
  have hnb : ¬ OwnF wv bon := fun e => h.ne2 e
  refine ⟨(Kp.of_below hb).grown hg (fun k hk => .inl (.inr (.inr hk))), h.box.kp hk (fun e => own_ne h.own h.box (by decide) e), fun i hi => rangeAt_kp (h.rng i hi) h.bl hk hnb, there_kp h.thr h.bl hk hnb, Nat.lt_of_lt_of_le h.bl hk.size, h.sec, ?_, ?_, h.ne1, ?_, fun k hk => ?_⟩
  · have e : wtC (wt ++ [x]) = wtC wt ++ wrC x := by simp [wtC]
    rw [List.length_append, List.length_singleton, e]
    exact ho
  · intro y hy
    rcases List.mem_append.1 hy with hy | hy
    · exact h.wts y hy
    · rw [List.mem_singleton.1 hy]; exact hx
  · intro e
    rcases hns bon e with h1 | h1
    · exact h.ne2 h1
    · have := hb.size; omega
  · rcases hns k hk with h1 | h1
    · exact .inl (.inr (.inr h1))
    · exact .inr (Nat.le_trans hb.size h1)
theorem DkS.stored {wv' : Value} {w2 : World} (h : DkS W bd bon n wv on wt acts wv' w2) : DkRes W bd bon n wv on wt (w2.setCell ⟨bd, 3, none⟩ wv') := by
  have hk : Kp (OnlyF bd) w2 (w2.setCell ⟨bd, 3, none⟩ wv') := Kp.set_only _ _ _ _
  have hne : ¬ OnlyF bd bon := fun e => h.ne1 e.symm
  refine ⟨wv', acts, ⟨h.box.set_ 3 wv', fun i hi => rangeAt_kp (h.rng i hi) h.bl hk hne, there_kp h.thr h.bl hk hne, Nat.lt_of_lt_of_le h.bl hk.size, h.sec,
    owns_block h.own fun g hg => hk.block g (h.own.lt g hg).2 (fun e => own_ne h.own h.box (by decide) (by unfold OnlyF at e; rw [hg, e])), h.wts, h.ne1, h.ne2⟩, h.kp.setCell (.inl (.inl rfl)) _, fun k hk => ?_⟩
  rcases hk with h1 | h1 | h1
  · exact .inl (.inl h1)
  · exact .inl (.inr (.inl h1))
  · exact h.ns k h1
theorem DkRes.kp {on' : Nat → List Int} {wt' : List (List Int × Nat)} (h : DkRes W bd bon n wv on' wt' W') : Kp (dkF bd bon wv) W W' := by
  obtain ⟨_, _, _, h, _⟩ := h
  exact h
theorem DkRes.from_ {W1 : World} {on' : Nat → List Int} {wt' : List (List Int × Nat)} (h : DkRes W1 bd bon n wv on' wt' W') (hk : Kp (dkF bd bon wv) W W1) : DkRes W bd bon n wv on' wt' W' := by
  obtain ⟨wv', acts', h1, h2, h3⟩ := h
  exact ⟨wv', acts', h1, hk.same h2, fun k hk' => (h3 k hk').imp id (fun h => Nat.le_trans hk.size h)⟩
end
set_option maxHeartbeats 2000000 in
set_option maxRecDepth 20000 in
theorem write_any (bd bon n : Nat) (wv : Value) (on : Nat → List Int) (wt : List (List Int × Nat)) (acts : Int) (i : Nat) (A : Option Addr) (c : Nat) (xs : List Int) (W : World) (h : Dk W bd bon n wv on wt acts) (hi : i < n) (hl : wt.length ≤ 100000)
    (hm : Mem W W.heap.size A (bv xs)) (hx : xs.length = 512) (hy : Byt xs) (hsep : ∀ b off, A = some ⟨b, off, none⟩ → ¬ dkF bd bon wv b) :
    Calls Tryz.prog 56 #[.pointer (some ⟨bd, 0, none⟩), .int .i64 i, .slice A 512 c] W fun e W' => e = .returned (.int .i64 0) ∧ DkRes W bd bon n wv on (wt ++ [(xs, i)]) W' := by
  obtain ⟨i0, hi0, hz0, hz1, hz2⟩ := infoWr
  have HD := hide h
  obtain ⟨A0, cw, rfl⟩ := owns_slice h.own
  have HP := hide (power_any bd W (h.box.cell 4))
  have HH := fun W' (hb : Below W.heap.size W W') => hide (has_any bd n n i _ W' ((h.below hb).box.cell 2) hi)
  have HU := fun W' => hide (unless_any true 2 W')
  have HFi := fun (W' : World) => hide (show Calls Tryz.prog 78 #[.slice (some ⟨W'.heap.size, 0, none⟩) 3 3] (W'.alloc (.cells #[.int .i64 0, .int .i64 0, .int .i64 0] 31)) (fun e w' => e = .returned (.int .i64 0) ∧ W'.alloc (.cells #[.int .i64 0, .int .i64 0, .int .i64 0] 31) = w') from first_any W'.heap.size [0, 0, 0] 3 (W'.alloc (.cells #[.int .i64 0, .int .i64 0, .int .i64 0] 31)) (fun i hi => by
    have := (Whole.new W' [.int .i64 0, .int .i64 0, .int .i64 0] 31).cell i
    rw [this]
    have h2 : i < 3 := hi
    have : i = 0 ∨ i = 1 ∨ i = 2 := by omega
    rcases this with rfl | rfl | rfl <;> rfl) (by decide))
  obtain ⟨b, off, rfl, hbl, hcx⟩ := byt_at hm (show 0 < xs.length by omega)
  have HRx := hide (show W.rangeAt b off (bv xs) from fun j v hv => by
    obtain ⟨hj, hv'⟩ := List.getElem?_eq_some_iff.1 hv
    rw [bv_len] at hj
    rw [hcx j hj, ← hv', bv_get xs j hj])
  have HSep := hide (hsep b off rfl)
  have HX := hide (show ((xs, i) : List Int × Nat).1.length = 512 ∧ Byt ((xs, i) : List Int × Nat).1 ∧ ((xs, i) : List Int × Nat).2 < n from ⟨hx, hy, hi⟩)
  have HBl := hide hbl
  clear h hcx hm hsep hy
  go_enter Tryz.func56, Tryz.ntmps56
  go_wp2_with fail
  refine HP.out.mono ?_
  rintro e w1 ⟨rfl, hb1⟩
  have HB1 := hide hb1
  clear hb1
  go_wp2_with fail
  refine (HH _ HB1.out).out.mono ?_
  rintro e w2 ⟨rfl, rfl⟩
  go_wp2_with fail
  refine (HU _).out.mono ?_
  rintro e w2 ⟨rfl, rfl⟩
  go_wp2_with fail
  refine (HFi w1).out.mono ?_
  rintro e w2 ⟨rfl, rfl⟩
  have HB2 := hide (HB1.out.alloc HB1.out.size (.cells #[.int .i64 0, .int .i64 0, .int .i64 0] 31))
  clear HB1
  generalize w1.alloc (.cells #[.int .i64 0, .int .i64 0, .int .i64 0] 31) = w2 at *
  have HD2 := hide (HD.out.below HB2.out)
  go_wp2_with fail
  refine (act_any bd acts w2 (HD2.out.box.cell 0) (HD2.out.box.cell 5) (HD2.out.box.frozen 5)).mono ?_
  rintro e w3 ⟨rfl, rfl⟩
  have HD3 := hide (HD2.out.acted (IntKind.u64.wrap (acts + 1)))
  have HK3 := hide (show Kp (dkF bd bon (.slice A0 wt.length cw)) W (w2.setCell ⟨bd, 5, none⟩ (.int .u64 (IntKind.u64.wrap (acts + 1)))) from (Kp.of_below HB2.out).setCell (.inl (.inl rfl)) _)
  generalize w2.setCell ⟨bd, 5, none⟩ (.int .u64 (IntKind.u64.wrap (acts + 1))) = w3 at *
  generalize IntKind.u64.wrap (acts + 1) = acts3 at *
  clear HD2 HB2
  have HR3 := hide (rangeAt_kp HRx.out HBl.out HK3.out HSep.out)
  have HBl3 := hide (Nat.lt_of_lt_of_le HBl.out HK3.out.size)
  clear HRx HBl
  go_upto_region 7 with fail
  have hxl : (bv xs).length = 512 := by rw [bv_len, hx]
  have HI := hide (show (Tryz.prog.info? 139).map (·.size) = some (bv xs).length from by rw [hxl]; exact secInfo)
  have HIs := hide (show (bv xs).length = 512 from hxl)
  clear hxl
  have har := fun W' => run_arrayAt (P := Tryz.prog) W' 139 5 512 (some ⟨b, off, none⟩) 512 c Tryz.underlying139 (Nat.le_refl _)
  refine wp_region_held_drew (S := (fun w' => Kp (dkF bd bon (.slice A0 wt.length cw)) w3 w')) (by kernel_rfl) ((Kp.refl _ _).drew) (fun hHeld => ?_)
  have hHeldB : Below w3.heap.size w3 w3.drew := (Below.refl _ _).drew
  generalize w3.drew = wd at *
  refine wpAnyH_take (i := 0) (v := ?vq1) rfl (by kernel_rfl) (by kernel_rfl) (by kernel_rfl) (fun _ _ _ h => h) (Or.inl ⟨by rfl, ?hq1⟩) (by assumption) ?rq1
  case hq1 => (intro wq hSw; go_simp; (try with_reducible rfl))
  try simp only [Act.put, List.getElem_toArray, List.getElem_cons_zero, List.setIfInBounds_toArray, List.set_cons_zero, List.set_cons_succ]
  refine wpAnyH_take (i := 1) (v := ?vq2) rfl (by kernel_rfl) (by kernel_rfl) (by kernel_rfl) (fun _ _ _ h => h) (Or.inl ⟨by rfl, ?hq2⟩) (by assumption) ?rq2
  case hq2 => (intro wq hSw; go_simp; (try with_reducible rfl))
  try simp only [Act.put, List.getElem_toArray, List.getElem_cons_zero, List.getElem_cons_succ, List.setIfInBounds_toArray, List.set_cons_zero, List.set_cons_succ]
  refine wpAnyH_take (i := 2) (v := ?vq3) rfl (by kernel_rfl) (by kernel_rfl) (by kernel_rfl) (fun _ _ _ h => h) (Or.inl ⟨by rfl, ?hq3⟩) (by assumption) ?rq3
  case hq3 => (intro wq hSw; go_simp; (try with_reducible rfl))
  try simp only [Act.put, List.getElem_toArray, List.getElem_cons_zero, List.getElem_cons_succ, List.setIfInBounds_toArray, List.set_cons_zero, List.set_cons_succ]
  refine wpAnyH_take (i := 3) (v := ?vq4) rfl (by kernel_rfl) (by kernel_rfl) (by kernel_rfl) (fun _ _ _ h => h) (Or.inl ⟨by rfl, ?hq4⟩) (by assumption) ?rq4
  case hq4 => (intro wq hSw; go_simp; (try with_reducible rfl))
  try simp only [Act.put, List.getElem_toArray, List.getElem_cons_zero, List.getElem_cons_succ, List.setIfInBounds_toArray, List.set_cons_zero, List.set_cons_succ]
  refine wpAnyH_take (i := 5) (v := ?vq5) rfl (by kernel_rfl) (by kernel_rfl) (by kernel_rfl) (fun _ _ _ h => h) (Or.inl ⟨by rfl, ?hq5⟩) (by assumption) ?rq5
  case hq5 => (intro wq hSw; go_simp; (try with_reducible rfl))
  try simp only [Act.put, List.getElem_toArray, List.getElem_cons_zero, List.getElem_cons_succ, List.setIfInBounds_toArray, List.set_cons_zero, List.set_cons_succ]
  refine wpAnyH_take (i := 6) (v := ?vq6) rfl (by kernel_rfl) (by kernel_rfl) (by kernel_rfl) (fun _ _ _ h => h) (Or.inl ⟨by rfl, ?hq6⟩) (by assumption) ?rq6
  case hq6 => (intro wq hSw; go_simp; (try with_reducible rfl))
  try simp only [Act.put, List.getElem_toArray, List.getElem_cons_zero, List.getElem_cons_succ, List.setIfInBounds_toArray, List.set_cons_zero, List.set_cons_succ]
  refine wpAnyH_take (i := 7) (v := .agg (bv xs).toArray) rfl (by kernel_rfl) (by kernel_rfl) (by kernel_rfl) (fun _ _ _ h => h) (Or.inl ⟨by rfl, ?h7⟩) (by assumption) ?r7
  case h7 => exact fun wq hSw => exec_load_mid wq 139 _ rfl b off rfl (bv xs) _ (rangeAt_kp HR3.out HBl3.out hSw HSep.out) Tryz.underlying139 rfl HI.out
  try simp only [Act.put, List.getElem_toArray, List.getElem_cons_zero, List.getElem_cons_succ, List.setIfInBounds_toArray, List.set_cons_zero, List.set_cons_succ]
  refine wpAnyH_take (i := 8) (v := ?vq7) rfl (by kernel_rfl) (by kernel_rfl) (by kernel_rfl) (fun _ _ _ h => h) (Or.inl ⟨by rfl, ?hq7⟩) (by assumption) ?rq7
  case hq7 => (intro wq hSw; go_simp; (try with_reducible rfl))
  try simp only [Act.put, List.getElem_toArray, List.getElem_cons_zero, List.getElem_cons_succ, List.setIfInBounds_toArray, List.set_cons_zero, List.set_cons_succ]
  refine wpAnyH_take (i := 9) (v := .agg (wrC (xs, i)).toArray) rfl (by kernel_rfl) (by kernel_rfl) (by kernel_rfl) (fun _ _ _ h => h) (Or.inl ⟨by rfl, ?h9⟩) (by assumption) ?r9
  case h9 => exact fun wq hSw => exec_build wq 141 _ rfl #[(0, .agg (bv xs).toArray), (1, .int .i64 i)] (by simp only [List.map_toArray, List.map_cons, List.map_nil]; rfl) _ (wr_built xs i hx wq)
  try simp only [Act.put, List.getElem_toArray, List.getElem_cons_zero, List.getElem_cons_succ, List.setIfInBounds_toArray, List.set_cons_zero, List.set_cons_succ]
  have HWl := hide (wrC_len (x := (xs, i)) hx)
  have HWo := hide (wrC_one (xs, i))
  have HDd := hide (HD3.out.below (show Below w3.heap.size w3 wd from hHeldB))
  refine wpAnyH_ready (rs := [4, 10]) (by kernel_rfl) (by simp) ?_
  refine AllReadyH.cons (o := _) rfl (fun K hK => ?_) ?_
  · skip
    have c0 := HDd.out.box.cell 3
    go_simp
    refine hK.out _ _ (hHeld) (fun hHeld => ?_)
    clear hK K c0
    try simp only [Act.put, List.getElem_toArray, List.getElem_cons_zero, List.getElem_cons_succ, List.setIfInBounds_toArray, List.set_cons_zero, List.set_cons_succ]
    refine wpAnyH_ready (rs := [10]) (by kernel_rfl) (by simp) ?_
    refine AllReadyH.cons (o := _) rfl (fun K hK => ?_) ?_
    · skip
      refine step_buildSlice (by rfl) 46 1 _ (by rfl) #[(0, .agg (wrC (xs, i)).toArray)] (by simp only [List.map_toArray, List.map_cons, List.map_nil]; rfl) _ (wr_slice (xs, i) hx wd) ?_
      have hb5 : Below w3.heap.size w3 (wd.alloc (.cells (wrC (xs, i)).toArray 141)) := hHeldB.alloc hHeldB.size _
      have hM5 := (Whole.new wd (wrC (xs, i)) 141).mem
      change Mem (wd.alloc (.cells (wrC (xs, i)).toArray 141)) _ _ _ at hM5
      have HB5 := hide hb5
      have HM5 := hide hM5
      have HD5 := hide (HD3.out.below hb5)
      refine hK.out _ _ (Kp.of_below hb5) (fun hHeld => ?_)
      clear hK K hb5 hM5 HDd
      try simp only [Act.put, List.getElem_toArray, List.getElem_cons_zero, List.getElem_cons_succ, List.setIfInBounds_toArray, List.set_cons_zero, List.set_cons_succ]
      generalize wd.alloc (.cells (wrC (xs, i)).toArray 141) = w5 at *
      generalize wd.heap.size = b5 at *
      refine wpAnyH_ready (rs := [11]) (by kernel_rfl) (by simp) ?_
      refine AllReadyH.cons (o := _) rfl (fun K hK => ?_) ?_
      · skip
        refine step_app _ (by rfl) _ _ _ (by rfl) 0 141 i0 (.agg Tryz.zeroCells141) 513 520 Tryz.underlying46 hi0 hz0 hz1 hz2 zwr (by decide) (.slice A0 wt.length cw) wt.length (wtC wt) (by rfl) HD5.out.own (some ⟨b5, 0, none⟩) 1 1 (wrC (xs, i)) (by rfl) HWl.out HM5.out HWo.out (by unfold maxLen; omega) (by omega) (Nat.zero_le _) ?_
        intro A' q' w6 ho hg hns
        have HS := hide (dkS (HD3.out.bl) HB5.out HD5.out HX.out ho hg hns)
        clear ho hg hns
        refine hK.out _ _ (HS.out.kp) (fun hHeld => ?_)
        clear hK K 
        try simp only [Act.put, List.getElem_toArray, List.getElem_cons_zero, List.getElem_cons_succ, List.setIfInBounds_toArray, List.set_cons_zero, List.set_cons_succ]
        refine wpAnyH_take (i := 12) (v := ?vq8) rfl (by kernel_rfl) (by kernel_rfl) (by kernel_rfl) (fun _ _ _ h => h) (Or.inl ⟨by rfl, ?hq8⟩) (by assumption) ?rq8
        case hq8 => (intro wq hSw; go_simp; (try with_reducible rfl))
        try simp only [Act.put, List.getElem_toArray, List.getElem_cons_zero, List.getElem_cons_succ, List.setIfInBounds_toArray, List.set_cons_zero, List.set_cons_succ]
        refine wpAnyH_take (i := 13) (v := ?vq9) rfl (by kernel_rfl) (by kernel_rfl) (by kernel_rfl) (fun _ _ _ h => h) (Or.inl ⟨by rfl, ?hq9⟩) (by assumption) ?rq9
        case hq9 => (intro wq hSw; go_simp; (try with_reducible rfl))
        try simp only [Act.put, List.getElem_toArray, List.getElem_cons_zero, List.getElem_cons_succ, List.setIfInBounds_toArray, List.set_cons_zero, List.set_cons_succ]
        refine wpAnyH_ready (rs := [14]) (by kernel_rfl) (by simp) ?_
        refine AllReadyH.cons (o := _) rfl (fun K hK => ?_) ?_
        · skip
          have o1 := HS.out.box.cell 3
          have f1 := HS.out.box.frozen 3
          go_simp
          have HE := hide HS.out.stored
          refine hK.out _ _ (HE.out.kp) (fun hHeld => ?_)
          clear hK K o1 f1
          try simp only [Act.put, List.getElem_toArray, List.getElem_cons_zero, List.getElem_cons_succ, List.setIfInBounds_toArray, List.set_cons_zero, List.set_cons_succ]
          refine wpAnyH_done (by kernel_rfl) ?_ _
          go_wp2_with fail
          go_ret
          exact ⟨rfl, HE.out.from_ HK3.out⟩
        exact AllReadyH.nil
      exact AllReadyH.nil
    exact AllReadyH.nil
  refine AllReadyH.cons (o := _) rfl (fun K hK => ?_) ?_
  · skip
    refine step_buildSlice (by rfl) 46 1 _ (by rfl) #[(0, .agg (wrC (xs, i)).toArray)] (by simp only [List.map_toArray, List.map_cons, List.map_nil]; rfl) _ (wr_slice (xs, i) hx wd) ?_
    have hb5 : Below w3.heap.size w3 (wd.alloc (.cells (wrC (xs, i)).toArray 141)) := hHeldB.alloc hHeldB.size _
    have hM5 := (Whole.new wd (wrC (xs, i)) 141).mem
    change Mem (wd.alloc (.cells (wrC (xs, i)).toArray 141)) _ _ _ at hM5
    have HB5 := hide hb5
    have HM5 := hide hM5
    have HD5 := hide (HD3.out.below hb5)
    refine hK.out _ _ (Kp.of_below hb5) (fun hHeld => ?_)
    clear hK K hb5 hM5 HDd
    try simp only [Act.put, List.getElem_toArray, List.getElem_cons_zero, List.getElem_cons_succ, List.setIfInBounds_toArray, List.set_cons_zero, List.set_cons_succ]
    generalize wd.alloc (.cells (wrC (xs, i)).toArray 141) = w5 at *
    generalize wd.heap.size = b5 at *
    refine wpAnyH_ready (rs := [4]) (by kernel_rfl) (by simp) ?_
    refine AllReadyH.cons (o := _) rfl (fun K hK => ?_) ?_
    · skip
      have c0 := HD5.out.box.cell 3
      go_simp
      refine hK.out _ _ (hHeld) (fun hHeld => ?_)
      clear hK K c0
      try simp only [Act.put, List.getElem_toArray, List.getElem_cons_zero, List.getElem_cons_succ, List.setIfInBounds_toArray, List.set_cons_zero, List.set_cons_succ]
      refine wpAnyH_ready (rs := [11]) (by kernel_rfl) (by simp) ?_
      refine AllReadyH.cons (o := _) rfl (fun K hK => ?_) ?_
      · skip
        refine step_app _ (by rfl) _ _ _ (by rfl) 0 141 i0 (.agg Tryz.zeroCells141) 513 520 Tryz.underlying46 hi0 hz0 hz1 hz2 zwr (by decide) (.slice A0 wt.length cw) wt.length (wtC wt) (by rfl) HD5.out.own (some ⟨b5, 0, none⟩) 1 1 (wrC (xs, i)) (by rfl) HWl.out HM5.out HWo.out (by unfold maxLen; omega) (by omega) (Nat.zero_le _) ?_
        intro A' q' w6 ho hg hns
        have HS := hide (dkS (HD3.out.bl) HB5.out HD5.out HX.out ho hg hns)
        clear ho hg hns
        refine hK.out _ _ (HS.out.kp) (fun hHeld => ?_)
        clear hK K 
        try simp only [Act.put, List.getElem_toArray, List.getElem_cons_zero, List.getElem_cons_succ, List.setIfInBounds_toArray, List.set_cons_zero, List.set_cons_succ]
        refine wpAnyH_take (i := 12) (v := ?vq10) rfl (by kernel_rfl) (by kernel_rfl) (by kernel_rfl) (fun _ _ _ h => h) (Or.inl ⟨by rfl, ?hq10⟩) (by assumption) ?rq10
        case hq10 => (intro wq hSw; go_simp; (try with_reducible rfl))
        try simp only [Act.put, List.getElem_toArray, List.getElem_cons_zero, List.getElem_cons_succ, List.setIfInBounds_toArray, List.set_cons_zero, List.set_cons_succ]
        refine wpAnyH_take (i := 13) (v := ?vq11) rfl (by kernel_rfl) (by kernel_rfl) (by kernel_rfl) (fun _ _ _ h => h) (Or.inl ⟨by rfl, ?hq11⟩) (by assumption) ?rq11
        case hq11 => (intro wq hSw; go_simp; (try with_reducible rfl))
        try simp only [Act.put, List.getElem_toArray, List.getElem_cons_zero, List.getElem_cons_succ, List.setIfInBounds_toArray, List.set_cons_zero, List.set_cons_succ]
        refine wpAnyH_ready (rs := [14]) (by kernel_rfl) (by simp) ?_
        refine AllReadyH.cons (o := _) rfl (fun K hK => ?_) ?_
        · skip
          have o1 := HS.out.box.cell 3
          have f1 := HS.out.box.frozen 3
          go_simp
          have HE := hide HS.out.stored
          refine hK.out _ _ (HE.out.kp) (fun hHeld => ?_)
          clear hK K o1 f1
          try simp only [Act.put, List.getElem_toArray, List.getElem_cons_zero, List.getElem_cons_succ, List.setIfInBounds_toArray, List.set_cons_zero, List.set_cons_succ]
          refine wpAnyH_done (by kernel_rfl) ?_ _
          go_wp2_with fail
          go_ret
          exact ⟨rfl, HE.out.from_ HK3.out⟩
        exact AllReadyH.nil
      exact AllReadyH.nil
    exact AllReadyH.nil
  exact AllReadyH.nil
end Go.Proofs.YtccnihdkjcjeoaaGreatDoor
namespace Go.Proofs.YtccnihdkjcjeoaaGreatDoor
open Go.RowKit Go.Shelf

theorem Kp.setCells (b : Nat) : ∀ (vs : List Value) (o : Nat) (w : World), Kp (OnlyF b) w (w.setCells b o vs)
  | [], _, w => Kp.refl _ _
  | v :: r, o, w => by
    rw [World.setCells]
    exact (Kp.set_only w b o v).same (Kp.setCells b r (o + 1) _)
section
variable {W W' : World} {bd bon n : Nat} {wv : Value} {on : Nat → List Int} {wt : List (List Int × Nat)} {acts : Int}
theorem Dk.there_at (h : Dk W bd bon n wv on wt acts) {i : Nat} (hi : i < n) : W.there bon (i * 512) 512 := fun j hj => by
  have := h.thr (i * 512 + j) (by have : (i + 1) * 512 ≤ n * 512 := Nat.mul_le_mul_right _ hi; omega)
  rwa [Nat.zero_add] at this
theorem Dk.sector (h : Dk W bd bon n wv on wt acts) {x : List Int × Nat} (hx : x.1.length = 512 ∧ Byt x.1 ∧ x.2 < n) : Dk (W.setCells bon (x.2 * 512) (bv x.1)) bd bon n wv (fun i => if i = x.2 then x.1 else on i) wt acts := by
  have hk : Kp (OnlyF bon) W (W.setCells bon (x.2 * 512) (bv x.1)) := Kp.setCells bon _ _ W
  have hl : (bv x.1).length = 512 := by rw [bv_len]; exact hx.1
  have ht : W.there bon (x.2 * 512) (bv x.1).length := fun j hj => by
    rw [hl] at hj
    have := h.thr (x.2 * 512 + j) (by have : (x.2 + 1) * 512 ≤ n * 512 := Nat.mul_le_mul_right _ hx.2.2; omega)
    rwa [Nat.zero_add] at this
  refine ⟨h.box.kp hk (fun e => h.ne1 e), fun i hi => ?_, World.there_setCells h.thr _ _ _, Nat.lt_of_lt_of_le h.bl hk.size, fun i hi => ?_, owns_block h.own fun g hg => hk.block g (h.own.lt g hg).2 (fun e => h.ne2 (by unfold OnlyF at e; rw [hg, e])), h.wts, h.ne1, h.ne2⟩
  · by_cases e : i = x.2
    · subst e
      simp only [if_true]
      exact World.rangeAt_setCells_same W _ _ _ ht
    · simp only [if_neg e]
      have hi2 : (bv (on i)).length = 512 := by rw [bv_len]; exact (h.sec i hi).1
      exact World.rangeAt_setCells_apart (h.rng i hi) _ _ _ (.inr (by rw [hi2, hl]; omega))
  · by_cases e : i = x.2
    · simp only [if_pos e]; exact ⟨hx.1, hx.2.1⟩
    · simp only [if_neg e]; exact h.sec i hi
theorem Dk.emptied (h : Dk W bd bon n wv on wt acts) : Dk (W.setCell ⟨bd, 3, none⟩ (.slice none 0 0)) bd bon n (.slice none 0 0) on [] acts := by
  have hk : Kp (OnlyF bd) W (W.setCell ⟨bd, 3, none⟩ (.slice none 0 0)) := Kp.set_only _ _ _ _
  have hne : ¬ OnlyF bd bon := fun e => h.ne1 e.symm
  exact ⟨h.box.set_ 3 _, fun i hi => rangeAt_kp (h.rng i hi) h.bl hk hne, there_kp h.thr h.bl hk hne, Nat.lt_of_lt_of_le h.bl hk.size, h.sec, ⟨rfl, .inl ⟨rfl, rfl⟩⟩, (fun x hx => by cases hx), h.ne1, (fun e => by cases e)⟩
theorem Dk.on_eq {on' : Nat → List Int} (h : Dk W bd bon n wv on wt acts) (e : ∀ i, on' i = on i) : Dk W bd bon n wv on' wt acts := by
  obtain rfl : on' = on := funext e
  exact h
end
/-- behind Flush -/
def FlushRes (bd bon n : Nat) (wv : Value) (c : Nat → List Int) (W : World) (e : Ending) (W' : World) : Prop := e = .returned (.int .i64 0) ∧ (∃ acts', Dk W' bd bon n (.slice none 0 0) c [] acts') ∧ Kp (dkF bd bon wv) W W'
set_option maxHeartbeats 2000000 in
set_option maxRecDepth 20000 in
theorem flush_any (bd bon n : Nat) (wv : Value) (on : Nat → List Int) (wt : List (List Int × Nat)) (acts : Int) (W : World) (h : Dk W bd bon n wv on wt acts) (hl : wt.length ≤ 100000) :
    Calls Tryz.prog 57 #[.pointer (some ⟨bd, 0, none⟩)] W (FlushRes bd bon n wv (rd on wt) W) := by
  have HD := hide h
  obtain ⟨A0, cw, rfl⟩ := owns_slice h.own
  have HP := hide (power_any bd W (h.box.cell 4))
  clear h
  go_enter Tryz.func57, Tryz.ntmps57
  go_wp2_with fail
  refine HP.out.mono ?_
  rintro e w2 ⟨rfl, hb⟩
  have HB2 := hide hb
  have HD2 := hide (HD.out.below hb)
  clear hb
  go_wp2_with fail
  refine (act_any bd acts w2 (HD2.out.box.cell 0) (HD2.out.box.cell 5) (HD2.out.box.frozen 5)).mono ?_
  rintro e w3 ⟨rfl, rfl⟩
  have HD3 := hide (HD2.out.acted (IntKind.u64.wrap (acts + 1)))
  have HK3 := hide (show Kp (dkF bd bon (.slice A0 wt.length cw)) W (w2.setCell ⟨bd, 5, none⟩ (.int .u64 (IntKind.u64.wrap (acts + 1)))) from (Kp.of_below HB2.out).setCell (.inl (.inl rfl)) _)
  generalize w2.setCell ⟨bd, 5, none⟩ (.int .u64 (IntKind.u64.wrap (acts + 1))) = w3 at *
  generalize IntKind.u64.wrap (acts + 1) = acts3 at *
  clear HD2 HB2
  have c3 := HD3.out.box.cell 3
  go_wp2_with fail
  clear c3
  go_loopw [6, 22] (fun _ x wr => ∃ k : Nat, k ≤ wt.length ∧ x = .int .i64 k ∧ Dk wr bd bon n (.slice A0 wt.length cw) (rd on (wt.take k)) wt acts3 ∧ Kp (dkF bd bon (.slice A0 wt.length cw)) W wr) (fun _ x _ => wt.length - (intOf x).toNat)
  case atStart => exact ⟨0, Nat.zero_le _, rfl, HD3.out, HK3.out⟩
  case round =>
    obtain ⟨k, hk, rfl, hd, hkp⟩ := hrel
    have HDk := hide hd
    have HKp := hide hkp
    clear hd hkp
    by_cases hlt : k < wt.length
    · obtain ⟨g, cg, hgv, hgl, hrg⟩ := HDk.out.wrange k hlt
      injection hgv with hg1 _ hg3
      subst hg1 hg3
      have HG := hide hrg
      have hGo := HDk.out.wts _ (List.getElem_mem hlt)
      have HT := hide (show ∀ i, rd on (wt.take (k + 1)) i = if i = wt[k].2 then wt[k].1 else rd on (wt.take k) i from rd_take on wt k hlt)
      clear hrg
      have hwl := wrC_len hGo.1
      have h512 : (wrC wt[k])[512]? = some (.int .i64 (wt[k].2 : Int)) := by
        have e : (bv wt[k].1).length = 512 := by rw [bv_len]; exact hGo.1
        rw [wrC, List.getElem?_append_right (by omega), e]
        rfl
      have HC := hide (show (wr.alloc (.cells (wrC wt[k]).toArray 141)).cell? ⟨wr.heap.size, 512, none⟩ = some (.int .i64 (wt[k].2 : Int)) from ((Whole.new wr (wrC wt[k]) 141).cell 512).trans h512)
      have HRw := hide (show (wr.alloc (.cells (wrC wt[k]).toArray 141)).rangeAt wr.heap.size 0 (bv wt[k].1) from fun j v hv => by
        have hj : j < 512 := by have := (List.getElem?_eq_some_iff.1 hv).1; rw [bv_len] at this; omega
        rw [Nat.zero_add]
        refine ((Whole.new wr (wrC wt[k]) 141).cell j).trans ?_
        rw [wrC, List.getElem?_append_left (by rw [bv_len]; omega)]
        exact hv)
      have hbl : (bv wt[k].1).length = 512 := by rw [bv_len]; exact hGo.1
      have HIs := hide (show (Tryz.prog.info? 139).map (·.size) = some (bv wt[k].1).length from by rw [hbl]; exact secInfo)
      have HOs := hide (all_oneCell_toArray (bv_one wt[k].1))
      have HI := hide (show (Tryz.prog.info? 141).map (·.size) = some (wrC wt[k]).length from by rw [hwl]; exact wrInfo)
      have HI2 := hide (show (Tryz.prog.info? 141).map (·.size) = some (wrC wt[k]).toArray.size from HI.out)
      have HZ := hide (show Tryz.zeroCells141.size = (wrC wt[k]).toArray.size from zwr.trans (by rw [List.size_toArray, hwl]))
      have HOne := hide (all_oneCell_toArray (wrC_one wt[k]))
      have HGo := hide hGo
      have hat := hGo.2.2
      clear hGo hwl h512 hbl
      generalize wrC wt[k] = cs at *
      generalize wt[k] = x at *
      go_upto_region 10 with (first | (refine wpList_load_mid rfl 141 _ rfl g (k * 513) rfl cs _ HG.out Tryz.underlying141 rfl HI.out ?_) | (refine wpList_store_new wr rfl 141 _ _ rfl Tryz.zeroCells141 cs.toArray rfl rfl HI2.out HZ.out HOne.out ?_))
      have hb4 : Below wr.heap.size wr (wr.alloc (.cells cs.toArray 141)) := (Below.refl _ _).alloc (Nat.le_refl _) _
      have HD4 := hide (HDk.out.below hb4)
      have HK4 := hide (HKp.out.same (Kp.of_below hb4))
      have hbw : wr.heap.size < (wr.alloc (.cells cs.toArray 141)).heap.size := by simp
      have hnb : ¬ wr.heap.size = bon := by have := HDk.out.bl; omega
      clear hb4
      generalize wr.alloc (.cells cs.toArray 141) = w4 at *
      generalize wr.heap.size = bw at *
      have d2 := HD4.out.box.cell 2
      have hbd := HD4.out.box.lt
      have hne1 := HD4.out.ne1
      have f1 := HC.out
      refine wp_region_held_drew (S := (fun w' => Kp (OnlyF bon) w4 w')) (by kernel_rfl) ((Kp.refl _ _).drew) (fun hHeld => ?_)
      have HDd := hide (HD4.out.below ((Below.refl _ _).drew))
      have HKd := hide (HK4.out.drew)
      generalize w4.drew = wd at *
      refine wpAnyH_take (i := 0) (v := ?vq1) rfl (by kernel_rfl) (by kernel_rfl) (by kernel_rfl) (fun _ _ _ h => h) (Or.inl ⟨by rfl, ?hq1⟩) (by assumption) ?rq1
      case hq1 => (intro wq hSw; go_simp; (try with_reducible rfl))
      try simp only [Act.put, List.getElem_toArray, List.getElem_cons_zero, List.setIfInBounds_toArray, List.set_cons_zero, List.set_cons_succ]
      refine wpAnyH_take (i := 1) (v := ?vq2) rfl (by kernel_rfl) (by kernel_rfl) (by kernel_rfl) (fun _ _ _ h => h) (Or.inl ⟨by rfl, ?hq2⟩) (by assumption) ?rq2
      case hq2 => (intro wq hSw; go_simp; (try with_reducible rfl))
      try simp only [Act.put, List.getElem_toArray, List.getElem_cons_zero, List.getElem_cons_succ, List.setIfInBounds_toArray, List.set_cons_zero, List.set_cons_succ]
      refine wpAnyH_take (i := 2) (v := ?vq3) rfl (by kernel_rfl) (by kernel_rfl) (by kernel_rfl) (fun _ _ _ h => h) (Or.inl ⟨by rfl, ?hq3⟩) (by assumption) ?rq3
      case hq3 => (intro wq hSw; go_simp; (try with_reducible rfl))
      try simp only [Act.put, List.getElem_toArray, List.getElem_cons_zero, List.getElem_cons_succ, List.setIfInBounds_toArray, List.set_cons_zero, List.set_cons_succ]
      refine wpAnyH_take (i := 3) (v := ?vq4) rfl (by kernel_rfl) (by kernel_rfl) (by kernel_rfl) (fun _ _ _ h => h) (Or.inl ⟨by rfl, ?hq4⟩) (by assumption) ?rq4
      case hq4 => (intro wq hSw; have e := (hSw.cell (p := ⟨bd, 2, none⟩) hbd hne1).trans d2; go_simp; (try with_reducible rfl))
      try simp only [Act.put, List.getElem_toArray, List.getElem_cons_zero, List.getElem_cons_succ, List.setIfInBounds_toArray, List.set_cons_zero, List.set_cons_succ]
      refine wpAnyH_take (i := 4) (v := ?vq5) rfl (by kernel_rfl) (by kernel_rfl) (by kernel_rfl) (fun _ _ _ h => h) (Or.inl ⟨by rfl, ?hq5⟩) (by assumption) ?rq5
      case hq5 => (intro wq hSw; go_simp; (try with_reducible rfl))
      try simp only [Act.put, List.getElem_toArray, List.getElem_cons_zero, List.getElem_cons_succ, List.setIfInBounds_toArray, List.set_cons_zero, List.set_cons_succ]
      refine wpAnyH_take (i := 5) (v := ?vq6) rfl (by kernel_rfl) (by kernel_rfl) (by kernel_rfl) (fun _ _ _ h => h) (Or.inl ⟨by rfl, ?hq6⟩) (by assumption) ?rq6
      case hq6 => (intro wq hSw; have e := (hSw.cell (p := ⟨bw, 512, none⟩) hbw hnb).trans f1; go_simp; (try with_reducible rfl))
      try simp only [Act.put, List.getElem_toArray, List.getElem_cons_zero, List.getElem_cons_succ, List.setIfInBounds_toArray, List.set_cons_zero, List.set_cons_succ]
      refine wpAnyH_take (i := 6) (v := ?vq7) rfl (by kernel_rfl) (by kernel_rfl) (by kernel_rfl) (fun _ _ _ h => h) (Or.inl ⟨by rfl, ?hq7⟩) (by assumption) ?rq7
      case hq7 => (intro wq hSw; go_simp; (try with_reducible rfl))
      try simp only [Act.put, List.getElem_toArray, List.getElem_cons_zero, List.getElem_cons_succ, List.setIfInBounds_toArray, List.set_cons_zero, List.set_cons_succ]
      refine wpAnyH_take (i := 7) (v := .agg (bv x.1).toArray) rfl (by kernel_rfl) (by kernel_rfl) (by kernel_rfl) (fun _ _ _ h => h) (Or.inl ⟨by rfl, ?h7⟩) (by assumption) ?r7
      case h7 => exact fun wq hSw => exec_load_mid wq 139 _ rfl bw 0 rfl (bv x.1) _ (rangeAt_kp HRw.out hbw hSw hnb) Tryz.underlying139 rfl HIs.out
      try simp only [Act.put, List.getElem_toArray, List.getElem_cons_zero, List.getElem_cons_succ, List.setIfInBounds_toArray, List.set_cons_zero, List.set_cons_succ]
      refine wpAnyH_take (i := 8) (v := ?vq8) rfl (by kernel_rfl) (by kernel_rfl) (by kernel_rfl) (fun _ _ _ h => h) (Or.inl ⟨by rfl, ?hq8⟩) (by assumption) ?rq8
      case hq8 => (intro wq hSw; go_simp; (try with_reducible rfl))
      try simp only [Act.put, List.getElem_toArray, List.getElem_cons_zero, List.getElem_cons_succ, List.setIfInBounds_toArray, List.set_cons_zero, List.set_cons_succ]
      refine wpAnyH_ready (rs := [9]) (by kernel_rfl) (by simp) ?_
      refine AllReadyH.cons (o := _) rfl (fun K hK => ?_) ?_
      · skip
        refine step_store_mid (by rfl) 139 _ _ (by rfl) bon (x.2 * 512) (bv x.1).toArray (by rfl) (by rfl) ?ht HIs.out HOs.out ?_
        case ht => rw [List.size_toArray, bv_len, HGo.out.1]; exact HDd.out.there_at HGo.out.2.2
        have HE := hide ((HDd.out.sector HGo.out).on_eq HT.out)
        have HKe := hide (HKd.out.same ((Kp.setCells bon (bv x.1) (x.2 * 512) wd).mono fun i hi => .inl (.inr (.inl hi))))
        refine hK.out _ _ (hHeld.same (Kp.setCells bon (bv x.1) (x.2 * 512) wd)) (fun hHeld => ?_)
        clear hK K
        try simp only [Act.put, List.getElem_toArray, List.getElem_cons_zero, List.getElem_cons_succ, List.setIfInBounds_toArray, List.set_cons_zero, List.set_cons_succ]
        refine wpAnyH_done (by kernel_rfl) ?_ _
        go_wp2_with fail
        go_roundw
        case rel => exact ⟨k + 1, hlt, by go_num, HE.out, HKe.out⟩
        case measure => simp [intOf]; omega
      exact AllReadyH.nil
    · obtain rfl : k = wt.length := by omega
      have c3 := HDk.out.box.cell 3
      have f3 := HDk.out.box.frozen 3
      rw [List.take_length] at HDk
      go_wp2_with fail
      go_ret
      exact ⟨rfl, ⟨acts3, HDk.out.emptied⟩, HKp.out.setCell (.inl (.inl rfl)) _⟩
end Go.Proofs.YtccnihdkjcjeoaaGreatDoor
namespace Go.Proofs.YtccnihdkjcjeoaaGreatDoor
open Go.RowKit

def halves : List Int := [0, 274646895, 549293790, 820201905, 1098587580, 1361435347, 1640403810, 1905808397, 2197175160, 2460548119, 2722870694, 2987750089, 3280807620, 3553878443, 3811616794, 4084100981]
/-- the table of package crc lies in its variable -/
def Tab (W : World) : Prop := ∀ j, j < 16 → W.cell? ⟨1, j, none⟩ = some (.int .u32 (halves.getD j 0))
def low4 (n : Int) : Int := bits BinOp.and IntKind.u32 n 15
theorem low4_lt {n : Int} (h0 : 0 ≤ n) (h1 : n ≤ 4294967295) : 0 ≤ bits BinOp.and IntKind.u32 n 15 ∧ bits BinOp.and IntKind.u32 n 15 < 16 := by
  have h := bits_and_u32_nat n.toNat 15 (by omega) (by decide)
  have e : ((n.toNat : Nat) : Int) = n := by omega
  have e2 : ((15 : Nat) : Int) = 15 := rfl
  rw [e, e2] at h
  rw [h]
  have : n.toNat &&& 15 ≤ 15 := Nat.and_le_right
  omega
def crc1 (n : Int) : Int := bits BinOp.xor IntKind.u32 (halves.getD (low4 n).toNat 0) (n / 16)
def crcB (n c : Int) : Int := crc1 (crc1 (bits BinOp.xor IntKind.u32 n c))
def crcL (xs : List Int) : Int := xs.foldl crcB 4294967295
def crc (xs : List Int) : Int := bits BinOp.xor IntKind.u32 IntKind.u32.max (crcL xs)
def crcT (m : Int) : Nat → Int
  | 0 => m
  | k + 1 => crc1 (crcT m k)
theorem bits_u32 (op : BinOp) (a b : Int) : 0 ≤ bits op .u32 a b ∧ bits op .u32 a b ≤ 4294967295 := ⟨bits_lo_u32 op a b, bits_hi_u32 op a b⟩
theorem crc1_bound (n : Int) : 0 ≤ crc1 n ∧ crc1 n ≤ 4294967295 := by
  unfold crc1
  exact bits_u32 _ _ _
theorem crcT_bound {m : Int} (h : 0 ≤ m ∧ m ≤ 4294967295) (k : Nat) : 0 ≤ crcT m k ∧ crcT m k ≤ 4294967295 := by
  cases k with
  | zero => exact h
  | succ k => exact crc1_bound _
theorem crcT_step (m : Int) (k : Nat) : crcT m (k + 1) = crc1 (crcT m k) := rfl
theorem crcL_step (xs : List Int) (j : Nat) (h : j < xs.length) : crcL (xs.take (j + 1)) = crcT (bits BinOp.xor IntKind.u32 (crcL (xs.take j)) xs[j]) 2 := by
  unfold crcL
  rw [List.take_succ_eq_append_getElem h, List.foldl_append]
  rfl
theorem crc_bound (xs : List Int) : 0 ≤ crc xs ∧ crc xs ≤ 4294967295 := bits_u32 _ _ _
theorem crcL_bound (xs : List Int) : 0 ≤ crcL xs ∧ crcL xs ≤ 4294967295 := by
  unfold crcL
  suffices h : ∀ n : Int, 0 ≤ n ∧ n ≤ 4294967295 → 0 ≤ xs.foldl crcB n ∧ xs.foldl crcB n ≤ 4294967295 from h _ (by decide)
  induction xs with
  | nil => exact fun n h => h
  | cons x xs ih => exact fun n _ => ih _ (crc1_bound _)
set_option maxHeartbeats 1000000 in
set_option maxRecDepth 20000 in
theorem sum_any (A : Option Addr) (xs : List Int) (c B : Nat) (w : World) (hm : Mem w B A (bv xs)) (hx : Byt xs) (hl : xs.length ≤ 1000000) (ht : Tab w) :
    Calls Tryz.prog 111 #[.slice A xs.length c] w fun e w' => e = .returned (.int .u32 (crc xs)) ∧ w = w' := by
  have HM := hide hm
  have HX := hide hx
  have HT := hide ht
  clear hm hx ht
  go_enter Tryz.func111, Tryz.ntmps111
  go_wp2
  go_loop [3, 8] (fun v i => ∃ j : Nat, j ≤ xs.length ∧ i = .int .i64 j ∧ v = .int .u32 (crcL (xs.take j))) (fun _ i => xs.length - (intOf i).toNat)
  case atStart => exact ⟨0, Nat.zero_le _, rfl, rfl⟩
  case round =>
    obtain ⟨j, hj, rfl, rfl⟩ := hrel
    by_cases hlt : j < xs.length
    · have HB := hide (crcL_bound (xs.take j))
      have HS := hide (crcL_step xs j hlt)
      obtain ⟨b, off, rfl, hb, hc⟩ := byt_at HM.out hlt
      have f1 := hc j hlt
      have hx := HX.out xs[j] (List.getElem_mem hlt)
      clear hc
      generalize xs[j] = y at *
      generalize crcL (xs.take j) = n at *
      go_wp2
      have HB2 := hide (bits_u32 BinOp.xor n y)
      generalize bits BinOp.xor IntKind.u32 n y = m at *
      go_loop [3, 16] (fun v i => ∃ k : Nat, k ≤ 2 ∧ i = .int .i64 k ∧ v = .int .u32 (crcT m k)) (fun _ i => 2 - (intOf i).toNat)
      case atStart => exact ⟨0, Nat.zero_le _, rfl, rfl⟩
      case round =>
        obtain ⟨k, hk, rfl, rfl⟩ := hrel
        by_cases hlt2 : k < 2
        · have HZ := hide (crcT_bound HB2.out k)
          have HZ2 := hide (crcT_step m k)
          generalize crcT m k = z at *
          obtain ⟨l0, l1⟩ := low4_lt HZ.out.1 HZ.out.2
          have fT := HT.out (bits BinOp.and IntKind.u32 z 15).toNat (by omega)
          have z0 := HZ.out.1
          go_wp2
          go_round
          case rel => exact ⟨k + 1, by omega, by go_num, by rw [HZ2.out]; rfl⟩
          case measure => simp [intOf]; omega
        · obtain rfl : k = 2 := by omega
          go_wp2
          go_round
          case rel => exact ⟨j + 1, by omega, by go_num, by rw [HS.out]⟩
          case measure => simp [intOf]; omega
    · obtain rfl : j = xs.length := by omega
      go_wp2
      go_ret
      exact ⟨rfl, rfl⟩
theorem Tab.below {W W' : World} (h : Tab W) (hb : Below W.heap.size W W') : Tab W' := fun j hj => (hb.cell (p := ⟨1, j, none⟩) (cell_lt (h j hj))).trans (h j hj)
theorem Tab.kp {W W' : World} {F : Nat → Prop} (h : Tab W) (hb : Kp F W W') (hn : ¬ F 1) : Tab W' := fun j hj => (hb.cell (p := ⟨1, j, none⟩) (cell_lt (h j hj)) hn).trans (h j hj)
/-- a number's four bytes turned round, as the library reckons it -/
def rev32a (n : Int) : Int := bits BinOp.or IntKind.u32 (bits BinOp.and IntKind.u32 (n / 256) 16711935) (IntKind.u32.wrap (bits BinOp.and IntKind.u32 n 16711935 * 256))
def rev32 (n : Int) : Int := bits BinOp.or IntKind.u32 (rev32a n / 65536) (IntKind.u32.wrap (rev32a n * 65536))
theorem rev_bound (n : Int) : 0 ≤ rev32 n ∧ rev32 n ≤ 4294967295 := bits_u32 _ _ _
set_option maxHeartbeats 1000000 in
theorem rev_any (n : Int) (w : World) : Calls Tryz.prog 112 #[.int .u32 n] w fun e w' => e = .returned (.int .u32 (rev32 n)) ∧ w = w' := by
  go_enter Tryz.func112, Tryz.ntmps112
  go_wp2
  go_ret
  exact ⟨rfl, rfl⟩
end Go.Proofs.YtccnihdkjcjeoaaGreatDoor
namespace Go.Proofs
open Go.Shelf
def Tryz.lays105_ren : Go.Shelf.Ren := ⟨fun | 105 => 110 | 212 => 122 | 99 => 123 | 165 => 124 | 166 => 49 | 170 => 125 | 169 => 50 | 263 => 131 | 264 => 132 | 206 => 133 | 240 => 86 | 241 => 134 | 276 => 113 | 277 => 146 | n => n, fun | 9 => 9 | 3 => 3 | 4 => 4 | 20 => 20 | 0 => 0 | 46 => 80 | 109 => 177 | 5 => 5 | 72 => 103 | 76 => 107 | 51 => 163 | 146 => 187 | 53 => 47 | 148 => 189 | 70 => 101 | 37 => 57 | 75 => 106 | 127 => 145 | 164 => 166 | 80 => 58 | n => n, fun | n => n⟩
theorem Tryz.lays105 : Go.Proofs.Lays.n105 Tryz.prog Tryz.lays105_ren := {
  mixed := by kernel_rfl
  f99 := Tryz.func123.trans (congrArg some (by kernel_rfl))
  f105 := Tryz.func110.trans (congrArg some (by kernel_rfl))
  f165 := Tryz.func124.trans (congrArg some (by kernel_rfl))
  f166 := Tryz.func49.trans (congrArg some (by kernel_rfl))
  f169 := Tryz.func50.trans (congrArg some (by kernel_rfl))
  f170 := Tryz.func125.trans (congrArg some (by kernel_rfl))
  f206 := Tryz.func133.trans (congrArg some (by kernel_rfl))
  f212 := Tryz.func122.trans (congrArg some (by kernel_rfl))
  f240 := Tryz.func86.trans (congrArg some (by kernel_rfl))
  f241 := Tryz.func134.trans (congrArg some (by kernel_rfl))
  f263 := Tryz.func131.trans (congrArg some (by kernel_rfl))
  f264 := Tryz.func132.trans (congrArg some (by kernel_rfl))
  f276 := Tryz.func113.trans (congrArg some (by kernel_rfl))
  f277 := Tryz.func146.trans (congrArg some (by kernel_rfl))
  t0 := Tryz.underlying0
  a0 := Tryz.isAgg0
  z0 := Tryz.sizeOf0
  v0 := Tryz.zeroValue0
  t3 := Tryz.underlying3
  a3 := Tryz.isAgg3
  z3 := Tryz.sizeOf3
  v3 := Tryz.zeroValue3
  t4 := Tryz.underlying4
  a4 := Tryz.isAgg4
  z4 := Tryz.sizeOf4
  v4 := Tryz.zeroValue4
  t5 := Tryz.underlying5
  a5 := Tryz.isAgg5
  z5 := Tryz.sizeOf5
  v5 := Tryz.zeroValue5
  t9 := Tryz.underlying9
  a9 := Tryz.isAgg9
  z9 := Tryz.sizeOf9
  v9 := Tryz.zeroValue9
  t20 := Tryz.underlying20
  a20 := Tryz.isAgg20
  z20 := Tryz.sizeOf20
  v20 := Tryz.zeroValue20
  t37 := Tryz.underlying57
  a37 := Tryz.isAgg57
  z37 := Tryz.sizeOf57
  v37 := Tryz.zeroValue57
  t46 := Tryz.underlying80
  a46 := Tryz.isAgg80
  z46 := Tryz.sizeOf80
  v46 := Tryz.zeroValue80
  t51 := Tryz.underlying163
  a51 := Tryz.isAgg163
  z51 := Tryz.sizeOf163
  v51 := Tryz.zeroValue163
  t53 := Tryz.underlying47
  a53 := Tryz.isAgg47
  z53 := Tryz.sizeOf47
  v53 := Tryz.zeroValue47
  t70 := Tryz.underlying101
  a70 := Tryz.isAgg101
  z70 := Tryz.sizeOf101
  v70 := Tryz.zeroValue101
  t72 := Tryz.underlying103
  a72 := Tryz.isAgg103
  z72 := Tryz.sizeOf103
  v72 := Tryz.zeroValue103
  t75 := Tryz.underlying106
  a75 := Tryz.isAgg106
  z75 := Tryz.sizeOf106
  v75 := Tryz.zeroValue106
  t76 := Tryz.underlying107
  a76 := Tryz.isAgg107
  z76 := Tryz.sizeOf107
  v76 := Tryz.zeroValue107
  t109 := Tryz.underlying177
  a109 := Tryz.isAgg177
  z109 := Tryz.sizeOf177
  v109 := Tryz.zeroValue177
  t127 := Tryz.underlying145
  a127 := Tryz.isAgg145
  z127 := Tryz.sizeOf145
  v127 := Tryz.zeroValue145
  t146 := Tryz.underlying187
  a146 := Tryz.isAgg187
  z146 := Tryz.sizeOf187
  v146 := Tryz.zeroValue187
  t148 := Tryz.underlying189
  a148 := Tryz.isAgg189
  z148 := Tryz.sizeOf189
  v148 := Tryz.zeroValue189
  t164 := Tryz.underlying166
  a164 := Tryz.isAgg166
  z164 := Tryz.sizeOf166
  v164 := Tryz.zeroValue166 }
def Tryz.lays29_ren : Go.Shelf.Ren := ⟨fun | 29 => 102 | n => n, fun | 22 => 47 | 3 => 3 | 4 => 4 | 25 => 80 | 54 => 172 | 0 => 0 | 5 => 5 | n => n, fun | 1 => 0 | n => n⟩
theorem Tryz.lays29 : Go.Proofs.Lays7.n29 Tryz.prog Tryz.lays29_ren := {
  mixed := by kernel_rfl
  f29 := Tryz.func102.trans (congrArg some (by kernel_rfl))
  t0 := Tryz.underlying0
  a0 := Tryz.isAgg0
  z0 := Tryz.sizeOf0
  v0 := Tryz.zeroValue0
  i0 := by kernel_rfl
  t3 := Tryz.underlying3
  a3 := Tryz.isAgg3
  z3 := Tryz.sizeOf3
  v3 := Tryz.zeroValue3
  i3 := by kernel_rfl
  t4 := Tryz.underlying4
  a4 := Tryz.isAgg4
  z4 := Tryz.sizeOf4
  v4 := Tryz.zeroValue4
  i4 := by kernel_rfl
  t5 := Tryz.underlying5
  a5 := Tryz.isAgg5
  z5 := Tryz.sizeOf5
  v5 := Tryz.zeroValue5
  i5 := by kernel_rfl
  t22 := Tryz.underlying47
  a22 := Tryz.isAgg47
  z22 := Tryz.sizeOf47
  v22 := Tryz.zeroValue47
  i22 := by kernel_rfl
  t25 := Tryz.underlying80
  a25 := Tryz.isAgg80
  z25 := Tryz.sizeOf80
  v25 := Tryz.zeroValue80
  i25 := by kernel_rfl
  t54 := Tryz.underlying172
  a54 := Tryz.isAgg172
  z54 := Tryz.sizeOf172
  g1 := by kernel_rfl }
end Go.Proofs
namespace Go.Proofs.YtccnihdkjcjeoaaGreatDoor
open Go.RowKit Go.Shelf

theorem extra : Builder.Extra Tryz.prog Tryz.lays105_ren := {
  sizeBuilder := by kernel_rfl
  liesBuilder := by kernel_rfl
  t5 := Tryz.lays105.t5
  a5 := Tryz.lays105.a5
  z5 := Tryz.lays105.z5
  v5 := Tryz.lays105.v5
  infoByte := by kernel_rfl
  cellsByte := by kernel_rfl
  sizeByte := by kernel_rfl
  neB5 := by decide }
/-- n zero bytes as a text -/
def zerosT (n : Nat) : ByteArray := ⟨(Go.Lib.repeatL [0] n).toArray⟩
theorem zerosT_bs (n : Nat) : bs (zerosT n) = List.replicate n 0 := by
  unfold bs zerosT
  dsimp only
  induction n with
  | zero => rfl
  | succ n ih =>
    rw [List.replicate_succ, ← ih]
    simp [Go.Lib.repeatL]
theorem zerosT_size (n : Nat) : (zerosT n).size = n := by
  have h := congrArg List.length (zerosT_bs n)
  rw [bs_len, List.length_replicate] at h
  exact h
theorem repeat_any (n : Nat) (w : World) (hn : n ≤ 1000000) :
    Calls Tryz.prog 110 #[.string ⟨#[0]⟩, .int .i64 n] w fun e w' => e = .returned (.string (zerosT n)) ∧ Below w.heap.size w w' := by
  have hs : (⟨#[0]⟩ : ByteArray).size = 1 := rfl
  exact Any.strings_Repeat Tryz.lays105 extra ⟨#[0]⟩ n w (by omega) (by rw [hs]; omega)
set_option maxHeartbeats 1000000 in
theorem equal_any (A1 A2 : Option Addr) (xs ys : List Int) (c1 c2 B1 B2 : Nat) (w : World) (h1 : Mem w B1 A1 (bv xs)) (h2 : Mem w B2 A2 (bv ys)) (hx : Byt xs) (hy : Byt ys) :
    Calls Tryz.prog 83 #[.slice A1 xs.length c1, .slice A2 ys.length c2] w fun e w' => e = .returned (.bool (decide (xs = ys))) ∧ w = w' := by
  have e1 := conv_str h1 c1
  have e2 := conv_str h2 c2
  have HE := hide (show ((strOfNums xs).toList == (strOfNums ys).toList) = decide (xs = ys) by
    rw [toList_eq, toList_eq, Bool.eq_iff_iff, beq_iff_eq, decide_eq_true_eq]
    constructor
    · intro h
      have h3 := congrArg (List.map fun c : UInt8 => (c.toNat : Int)) h
      have h4 : bs (strOfNums xs) = bs (strOfNums ys) := h3
      rwa [bs_nums hx, bs_nums hy] at h4
    · intro h; rw [h])
  clear h1 h2 hx hy
  go_enter Tryz.func83, Tryz.ntmps83
  go_wp2
  go_ret
  exact ⟨ret_bool HE.out, rfl⟩
end Go.Proofs.YtccnihdkjcjeoaaGreatDoor
namespace Go.Proofs.YtccnihdkjcjeoaaGreatDoor
open Go.RowKit Go.Shelf

/-- a packer that was made since w0 -/
structure PkB (w0 W : World) (bp : Nat) (v : Value) (xs : List Int) : Prop where
  bel : Below w0.heap.size w0 W
  pk : Pk W bp v xs
  hi : ∀ k, pkF bp v k → w0.heap.size ≤ k
section
variable {w0 W W' : World} {bp : Nat} {v : Value} {xs : List Int}
def PkRes (w0 : World) (bp : Nat) (zs : List Int) (e : Ending) (W' : World) : Prop := ∃ v', e = .returned (.pointer (some ⟨bp, 0, none⟩)) ∧ PkB w0 W' bp v' zs
theorem PkB.of_put {zs : List Int} {e : Ending} (h : PkB w0 W bp v xs) (hp : PutRes bp v zs W e W') : PkRes w0 bp zs e W' := by
  obtain ⟨v', he, h1, h2, h3⟩ := hp
  exact ⟨v', he, h.bel.trans (h2.below h.bel.size h.hi), h1, fun k hk => (h3 k hk).elim (h.hi k) (fun h4 => Nat.le_trans h.bel.size h4)⟩
theorem PkB.start (h : Below w0.heap.size w0 W) : PkB w0 (W.alloc (.cells #[.slice none 0 0, .int .i64 0] 136)) W.heap.size (.slice none 0 0) [] :=
  ⟨h.alloc h.size _, Pk.new W, fun k hk => hk.elim (fun e => by rw [e]; exact h.size) (fun e => by cases e)⟩
theorem PkB.next (h : PkB w0 W bp v xs) (hb : Below W.heap.size W W') : PkB w0 W' bp v xs := ⟨h.bel.trans (hb.mono h.bel.size), h.pk.below hb, h.hi⟩
theorem PkB.put (h : PkB w0 W bp v xs) (k : Nat) (n : Int) (hl : xs.length + k ≤ 1000000) (hk : k = 1 ∨ k = 2 ∨ k = 4 ∨ k = 8) (hn0 : 0 ≤ n) (hn1 : n < 2 ^ (8 * k)) :
    Calls Tryz.prog 42 #[.pointer (some ⟨bp, 0, none⟩), .int .i64 k, .int .u64 n] W (PkRes w0 bp (xs ++ Pl.be k n)) := (put_go bp v xs k n W h.pk hl hk hn0 hn1).mono fun _ _ hp => h.of_put hp
theorem PkB.text (h : PkB w0 W bp v xs) (s : ByteArray) (hl : xs.length + s.size ≤ 1000000) :
    Calls Tryz.prog 58 #[.pointer (some ⟨bp, 0, none⟩), .string s] W (PkRes w0 bp (xs ++ bs s)) := (text_any bp v xs s W h.pk hl).mono fun _ _ hp => h.of_put hp
theorem PkB.name (h : PkB w0 W bp v xs) (s : ByteArray) (hl : xs.length + s.size + 1 ≤ 1000000) (hs : s.size < 256) :
    Calls Tryz.prog 109 #[.pointer (some ⟨bp, 0, none⟩), .string s] W (PkRes w0 bp (xs ++ (s.size : Int) :: bs s)) := (name_any bp v xs s W h.pk hl hs).mono fun _ _ hp => h.of_put hp
/-- bytes that are handed back: in a row that is new -/
def NewBytes (w : World) (xs : List Int) (v : Value) (w' : World) : Prop := w'.ownsRow w.heap.size 5 1 v xs.length (bv xs) ∧ Below w.heap.size w w'
theorem PkB.bytes (h : PkB w0 W bp v xs) (hl : xs.length ≤ 1000000) :
    Calls Tryz.prog 43 #[.pointer (some ⟨bp, 0, none⟩)] W fun e W' => ∃ A c, e = .returned (.tuple #[.slice A xs.length c, .int .i64 0]) ∧ PkB w0 W' bp v xs ∧ W'.ownsRow w0.heap.size 5 1 (.slice A xs.length c) xs.length (bv xs) :=
  (bytes_any bp v xs W h.pk hl).mono fun e W' hp => by
    obtain ⟨v', he, ho, hb⟩ := hp
    obtain ⟨A, c, rfl⟩ := owns_slice ho
    exact ⟨A, c, he, h.next hb, owns_base ho fun g hg => Nat.le_trans h.bel.size (ho.lt g hg).1⟩
end
/-- a head's sector, ahead of its checksum -/
def headA (gen first : Int) (sec : Nat) (note : ByteArray) : List Int := [] ++ Pl.be 8 gen ++ Pl.be 8 first ++ Pl.be 2 sec ++ (note.size : Int) :: bs note ++ List.replicate (489 - note.size) 0
def headB (gen first : Int) (sec : Nat) (note : ByteArray) : List Int := headA gen first sec note ++ Pl.be 4 (crc (headA gen first sec note))
theorem headA_len (gen first : Int) (sec : Nat) (note : ByteArray) (h : note.size ≤ 489) : (headA gen first sec note).length = 508 := by
  simp [headA, Pl.be_len, bs_len]
  omega
theorem headB_len (gen first : Int) (sec : Nat) (note : ByteArray) (h : note.size ≤ 489) : (headB gen first sec note).length = 512 := by
  rw [headB, List.length_append, headA_len _ _ _ _ h, Pl.be_len]
theorem zeros_byt (n : Nat) : Byt (List.replicate n 0) := fun x hx => by rw [List.eq_of_mem_replicate hx]; decide
theorem headA_byt (gen first : Int) (sec : Nat) (note : ByteArray) (h : note.size < 256) : Byt (headA gen first sec note) := by
  refine Byt.app (Byt.app (Byt.app (Byt.app (Byt.app (fun x hx => by cases hx) (Pl.be_byt _ _)) (Pl.be_byt _ _)) (Pl.be_byt _ _)) ?_) (zeros_byt _)
  intro x hx
  rcases List.mem_cons.1 hx with rfl | hx
  · omega
  · exact bs_byt note x hx
theorem headB_byt (gen first : Int) (sec : Nat) (note : ByteArray) (h : note.size < 256) : Byt (headB gen first sec note) := Byt.app (headA_byt _ _ _ _ h) (Pl.be_byt _ _)
set_option maxHeartbeats 2000000 in
set_option maxRecDepth 20000 in
theorem headput_any (gen first : Int) (sec : Nat) (note : ByteArray) (W : World) (hg0 : 0 ≤ gen) (hg1 : gen < 18446744073709551616) (hf0 : 0 ≤ first) (hf1 : first < 18446744073709551616) (hs : sec < 65536) (hn : note.size < 256) (ht : Tab W) :
    Calls Tryz.prog 84 #[.agg #[.int .u64 gen, .int .u64 first, .int .i64 sec, .string note]] W fun e W' => ∃ A c, e = .returned (.slice A 512 c) ∧ W'.ownsRow W.heap.size 5 1 (.slice A 512 c) 512 (bv (headB gen first sec note)) ∧ Below W.heap.size W W' := by
  have HG := hide (show 0 ≤ gen ∧ gen < 2 ^ (8 * 8) from ⟨hg0, hg1⟩)
  have HF := hide (show 0 ≤ first ∧ first < 2 ^ (8 * 8) from ⟨hf0, hf1⟩)
  have hw2 : IntKind.u64.wrap (sec : Int) = sec := by rw [IntKind.wrap_u64]; omega
  have HTab := hide ht
  clear hg1 hf1 hg0 hf0 ht
  have hb0 : Below W.heap.size W (W.alloc (.cells #[.int .u64 gen, .int .u64 first, .int .i64 sec, .string note] 66)) := (Below.refl _ _).alloc (Nat.le_refl _) _
  have hbox := Whole.new W [.int .u64 gen, .int .u64 first, .int .i64 sec, .string note] 66
  change Whole (W.alloc (.cells #[.int .u64 gen, .int .u64 first, .int .i64 sec, .string note] 66)) _ _ _ at hbox
  have HB0 := hide hb0
  have HBox := hide hbox
  clear hb0 hbox
  go_enter Tryz.func84, Tryz.ntmps84
  go_wp2_with fail
  generalize W.alloc (.cells #[.int .u64 gen, .int .u64 first, .int .i64 sec, .string note] 66) = wb at *
  have hbl := HBox.out.lt
  have b0 := HBox.out.cell 0
  have b1 := HBox.out.cell 1
  have b2 := HBox.out.cell 2
  have b3 := HBox.out.cell 3
  go_cut [3] (fun s3 wx => ∃ bp v, s3 = .pointer (some ⟨bp, 0, none⟩) ∧ PkB wb wx bp v ([] ++ Pl.be 8 gen ++ Pl.be 8 first ++ Pl.be 2 sec ++ (note.size : Int) :: bs note))
  case first =>
    refine wp_region_held_drew (S := (fun w' => Below wb.heap.size wb w')) (by kernel_rfl) ((Below.refl _ _).drew) (fun hHeld => ?_)
    generalize wb.drew = wd at *
    refine wpAnyH_take (i := 1) (v := ?vq1) rfl (by kernel_rfl) (by kernel_rfl) (by kernel_rfl) (fun _ _ _ h => h) (Or.inl ⟨by rfl, ?hq1⟩) (by assumption) ?rq1
    case hq1 => (intro wq hSw; go_simp; (try with_reducible rfl))
    try simp only [Act.put, List.getElem_toArray, List.getElem_cons_zero, List.getElem_cons_succ, List.setIfInBounds_toArray, List.set_cons_zero, List.set_cons_succ]
    refine wpAnyH_take (i := 2) (v := ?vq2) rfl (by kernel_rfl) (by kernel_rfl) (by kernel_rfl) (fun _ _ _ h => h) (Or.inl ⟨by rfl, ?hq2⟩) (by assumption) ?rq2
    case hq2 => (intro wq hSw; have e := (hSw.cell (p := ⟨W.heap.size, 0, none⟩) hbl).trans b0; go_simp; (try with_reducible rfl))
    try simp only [Act.put, List.getElem_toArray, List.getElem_cons_zero, List.getElem_cons_succ, List.setIfInBounds_toArray, List.set_cons_zero, List.set_cons_succ]
    refine wpAnyH_take (i := 4) (v := ?vq3) rfl (by kernel_rfl) (by kernel_rfl) (by kernel_rfl) (fun _ _ _ h => h) (Or.inl ⟨by rfl, ?hq3⟩) (by assumption) ?rq3
    case hq3 => (intro wq hSw; go_simp; (try with_reducible rfl))
    try simp only [Act.put, List.getElem_toArray, List.getElem_cons_zero, List.getElem_cons_succ, List.setIfInBounds_toArray, List.set_cons_zero, List.set_cons_succ]
    refine wpAnyH_take (i := 5) (v := ?vq4) rfl (by kernel_rfl) (by kernel_rfl) (by kernel_rfl) (fun _ _ _ h => h) (Or.inl ⟨by rfl, ?hq4⟩) (by assumption) ?rq4
    case hq4 => (intro wq hSw; have e := (hSw.cell (p := ⟨W.heap.size, 1, none⟩) hbl).trans b1; go_simp; (try with_reducible rfl))
    try simp only [Act.put, List.getElem_toArray, List.getElem_cons_zero, List.getElem_cons_succ, List.setIfInBounds_toArray, List.set_cons_zero, List.set_cons_succ]
    refine wpAnyH_take (i := 7) (v := ?vq5) rfl (by kernel_rfl) (by kernel_rfl) (by kernel_rfl) (fun _ _ _ h => h) (Or.inl ⟨by rfl, ?hq5⟩) (by assumption) ?rq5
    case hq5 => (intro wq hSw; go_simp; (try with_reducible rfl))
    try simp only [Act.put, List.getElem_toArray, List.getElem_cons_zero, List.getElem_cons_succ, List.setIfInBounds_toArray, List.set_cons_zero, List.set_cons_succ]
    refine wpAnyH_take (i := 8) (v := ?vq6) rfl (by kernel_rfl) (by kernel_rfl) (by kernel_rfl) (fun _ _ _ h => h) (Or.inl ⟨by rfl, ?hq6⟩) (by assumption) ?rq6
    case hq6 => (intro wq hSw; have e := (hSw.cell (p := ⟨W.heap.size, 2, none⟩) hbl).trans b2; go_simp; (try with_reducible rfl))
    try simp only [Act.put, List.getElem_toArray, List.getElem_cons_zero, List.getElem_cons_succ, List.setIfInBounds_toArray, List.set_cons_zero, List.set_cons_succ]
    refine wpAnyH_take (i := 9) (v := ?vq7) rfl (by kernel_rfl) (by kernel_rfl) (by kernel_rfl) (fun _ _ _ h => h) (Or.inl ⟨by rfl, ?hq7⟩) (by assumption) ?rq7
    case hq7 => (intro wq hSw; go_simp; (try with_reducible rfl))
    try simp only [Act.put, List.getElem_toArray, List.getElem_cons_zero, List.getElem_cons_succ, List.setIfInBounds_toArray, List.set_cons_zero, List.set_cons_succ]
    refine wpAnyH_take (i := 11) (v := ?vq8) rfl (by kernel_rfl) (by kernel_rfl) (by kernel_rfl) (fun _ _ _ h => h) (Or.inl ⟨by rfl, ?hq8⟩) (by assumption) ?rq8
    case hq8 => (intro wq hSw; go_simp; (try with_reducible rfl))
    try simp only [Act.put, List.getElem_toArray, List.getElem_cons_zero, List.getElem_cons_succ, List.setIfInBounds_toArray, List.set_cons_zero, List.set_cons_succ]
    refine wpAnyH_take (i := 12) (v := ?vq9) rfl (by kernel_rfl) (by kernel_rfl) (by kernel_rfl) (fun _ _ _ h => h) (Or.inl ⟨by rfl, ?hq9⟩) (by assumption) ?rq9
    case hq9 => (intro wq hSw; have e := (hSw.cell (p := ⟨W.heap.size, 3, none⟩) hbl).trans b3; go_simp; (try with_reducible rfl))
    try simp only [Act.put, List.getElem_toArray, List.getElem_cons_zero, List.getElem_cons_succ, List.setIfInBounds_toArray, List.set_cons_zero, List.set_cons_succ]
    refine wpAnyH_ready (rs := [0]) (by kernel_rfl) (by simp) ?_
    refine AllReadyH.cons (o := _) rfl (fun K hK => ?_) AllReadyH.nil
    go_simp
    refine (new_any _).mono ?_
    rintro e w1 ⟨rfl, rfl⟩
    have HP0 := hide (PkB.start hHeld)
    generalize wd.alloc (.cells #[.slice none 0 0, .int .i64 0] 136) = wp at *
    generalize wd.heap.size = bp at *
    refine hK.out _ _ (HP0.out.bel) (fun hHeld => ?_)
    clear hK K 
    try simp only [Act.put, List.getElem_toArray, List.getElem_cons_zero, List.getElem_cons_succ, List.setIfInBounds_toArray, List.set_cons_zero, List.set_cons_succ]
    refine wpAnyH_ready (rs := [3]) (by kernel_rfl) (by simp) ?_
    refine AllReadyH.cons (o := _) rfl (fun K hK => ?_) AllReadyH.nil
    go_simp
    refine (HP0.out.put 8 gen (by simp) (by omega) HG.out.1 HG.out.2).mono ?_
    rintro e w2 ⟨v2, rfl, hp⟩
    have HP1 := hide hp
    clear hp
    refine hK.out _ _ (HP1.out.bel) (fun hHeld => ?_)
    clear hK K 
    try simp only [Act.put, List.getElem_toArray, List.getElem_cons_zero, List.getElem_cons_succ, List.setIfInBounds_toArray, List.set_cons_zero, List.set_cons_succ]
    refine wpAnyH_ready (rs := [6]) (by kernel_rfl) (by simp) ?_
    refine AllReadyH.cons (o := _) rfl (fun K hK => ?_) AllReadyH.nil
    go_simp
    refine (HP1.out.put 8 first (by simp [Pl.be_len]) (by omega) HF.out.1 HF.out.2).mono ?_
    rintro e w3 ⟨v3, rfl, hp⟩
    have HP2 := hide hp
    clear hp
    refine hK.out _ _ (HP2.out.bel) (fun hHeld => ?_)
    clear hK K 
    try simp only [Act.put, List.getElem_toArray, List.getElem_cons_zero, List.getElem_cons_succ, List.setIfInBounds_toArray, List.set_cons_zero, List.set_cons_succ]
    refine wpAnyH_ready (rs := [10]) (by kernel_rfl) (by simp) ?_
    refine AllReadyH.cons (o := _) rfl (fun K hK => ?_) AllReadyH.nil
    go_simp
    refine (HP2.out.put 2 sec (by simp [Pl.be_len]) (by omega) (by omega) (by omega)).mono ?_
    rintro e w4 ⟨v4, rfl, hp⟩
    have HP3 := hide hp
    clear hp
    refine hK.out _ _ (HP3.out.bel) (fun hHeld => ?_)
    clear hK K 
    try simp only [Act.put, List.getElem_toArray, List.getElem_cons_zero, List.getElem_cons_succ, List.setIfInBounds_toArray, List.set_cons_zero, List.set_cons_succ]
    refine wpAnyH_ready (rs := [13]) (by kernel_rfl) (by simp) ?_
    refine AllReadyH.cons (o := _) rfl (fun K hK => ?_) AllReadyH.nil
    go_simp
    refine (HP3.out.name note (by simp [Pl.be_len]; omega) hn).mono ?_
    rintro e w5 ⟨v5, rfl, hp⟩
    have HP4 := hide hp
    clear hp
    refine hK.out _ _ (HP4.out.bel) (fun hHeld => ?_)
    clear hK K 
    try simp only [Act.put, List.getElem_toArray, List.getElem_cons_zero, List.getElem_cons_succ, List.setIfInBounds_toArray, List.set_cons_zero, List.set_cons_succ]
    refine wpAnyH_take (i := 14) (v := ?vq10) rfl (by kernel_rfl) (by kernel_rfl) (by kernel_rfl) (fun _ _ _ h => h) (Or.inl ⟨by rfl, ?hq10⟩) (by assumption) ?rq10
    case hq10 => (intro wq hSw; go_simp; (try with_reducible rfl))
    try simp only [Act.put, List.getElem_toArray, List.getElem_cons_zero, List.getElem_cons_succ, List.setIfInBounds_toArray, List.set_cons_zero, List.set_cons_succ]
    refine wpAnyH_done (by kernel_rfl) ?_ _
    go_wp2_with fail
    go_meet
    exact ⟨_, _, rfl, HP4.out⟩
  case rest =>
    obtain ⟨bp, v, rfl, hp⟩ := hcut
    have HP := hide hp
    have c3 := (hp.bel.cell (p := ⟨W.heap.size, 3, none⟩) hbl).trans b3
    clear hp b0 b1 b2 b3
    have hx4 : (489 : Int) - (note.size : Int) = ((489 - note.size : Nat) : Int) := by omega
    go_wp2_with fail
    refine (repeat_any (489 - note.size) wc (by omega)).mono ?_
    rintro e w1 ⟨rfl, hb⟩
    have HP1 := hide (HP.out.next hb)
    clear hb c3 HP
    go_wp2_with fail
    refine (HP1.out.text (zerosT (489 - note.size)) (by rw [zerosT_size]; simp [Pl.be_len, bs_len]; omega)).mono ?_
    rintro e w2 ⟨v2, rfl, hp⟩
    rw [zerosT_bs] at hp
    have HP2 := hide (show PkB wb w2 bp v2 (headA gen first sec note) from hp)
    clear hp HP1
    have HL := hide (headA_len gen first sec note (by omega))
    have HBy := hide (headA_byt gen first sec note hn)
    have HE := hide (show headA gen first sec note ++ Pl.be 4 (crc (headA gen first sec note)) = headB gen first sec note from rfl)
    have HCr := hide (crc_bound (headA gen first sec note))
    have HLB := hide (headB_len gen first sec note (by omega))
    generalize headA gen first sec note = hA at *
    generalize hhB : headB gen first sec note = hB at HE HLB
    have HhB := hide hhB
    clear hhB
    go_wp2_with fail
    refine (HP2.out.bytes (by rw [HL.out]; decide)).mono ?_
    rintro e w3 ⟨A3, k3, rfl, hp, ho⟩
    have HP3 := hide hp
    have HM3 := hide (owns_mem ho)
    have HT3 := hide (HTab.out.below (HB0.out.trans (hp.bel.mono HB0.out.size)))
    clear hp ho HP2
    go_wp2_with fail
    refine (sum_any A3 hA k3 _ w3 HM3.out HBy.out (by rw [HL.out]; decide) HT3.out).mono ?_
    rintro e w4 ⟨rfl, rfl⟩
    have hw4 : IntKind.u64.wrap (crc hA) = crc hA := by rw [IntKind.wrap_u64]; have := HCr.out; omega
    generalize crc hA = cr at *
    go_wp2_with fail
    refine (HP3.out.put 4 cr (by rw [HL.out]; decide) (by omega) HCr.out.1 (by have := HCr.out.2; omega)).mono ?_
    rintro e w5 ⟨v5, rfl, hp⟩
    rw [HE.out] at hp
    have HP5 := hide hp
    clear hp HP3
    go_wp2_with fail
    refine (HP5.out.bytes (by rw [HLB.out]; decide)).mono ?_
    rintro e w6 ⟨A6, k6, rfl, hp, ho⟩
    rw [HLB.out] at ho ⊢
    have HP6 := hide hp
    have HO6 := hide (owns_base ho fun g hg => Nat.le_trans HB0.out.size (ho.lt g hg).1)
    have HB6 := hide (HB0.out.trans (hp.bel.mono HB0.out.size))
    clear hp ho
    go_wp2_with fail
    go_ret
    exact ⟨A6, k6, rfl, by rw [HhB.out]; exact HO6.out, HB6.out⟩
end Go.Proofs.YtccnihdkjcjeoaaGreatDoor
namespace Go.Proofs.YtccnihdkjcjeoaaGreatDoor
open Go.RowKit Go.Shelf

theorem split_head {xs : List Int} (hl : xs.length = 512) (hb : Byt xs) : ∃ (p q r : List Int) (n : Nat) (rest : List Int), xs = p ++ (q ++ (r ++ ((n : Int) :: rest))) ∧ p.length = 8 ∧ q.length = 8 ∧ r.length = 2 ∧ n < 256 ∧ rest.length = 493 := by
  have h18 : 18 < xs.length := by omega
  have hx := hb xs[18] (List.getElem_mem h18)
  refine ⟨xs.take 8, (xs.drop 8).take 8, (xs.drop 16).take 2, xs[18].toNat, xs.drop 19, ?_, by rw [List.length_take]; omega, by rw [List.length_take, List.length_drop]; omega, by rw [List.length_take, List.length_drop]; omega, by omega, by rw [List.length_drop]; omega⟩
  have e : ((xs[18].toNat : Nat) : Int) = xs[18] := by omega
  have e1 : xs.drop 18 = xs[18] :: xs.drop 19 := List.drop_eq_getElem_cons h18
  have e2 : xs.drop 16 = (xs.drop 16).take 2 ++ xs.drop 18 := by
    have := (List.take_append_drop 2 (xs.drop 16)).symm
    rwa [List.drop_drop] at this
  have e3 : xs.drop 8 = (xs.drop 8).take 8 ++ xs.drop 16 := by
    have := (List.take_append_drop 8 (xs.drop 8)).symm
    rwa [List.drop_drop] at this
  rw [e, ← e1, ← e2, ← e3]
  exact (List.take_append_drop 8 xs).symm
/-- an opener on its way, and the result's box ahead of it -/
structure Tk (W Wi : World) (t : TypeId) (zs : List Value) (bo g : Nat) (A : Option Addr) (c : Nat) (rest : List Int) (err : Int) : Prop where
  bel : Below W.heap.size W Wi
  box : Whole Wi W.heap.size t zs
  op : Opn Wi bo g A c rest err
  lo : W.heap.size < bo
  lg : W.heap.size < g
section
variable {W Wi W' : World} {t : TypeId} {zs : List Value} {bo g : Nat} {A : Option Addr} {c : Nat} {rest : List Int} {err : Int}
theorem Tk.of_opn {rest' : List Int} {err' : Int} (h : Tk W Wi t zs bo g A c rest err) (ho : OpnTo Wi bo g rest' err' W') : ∃ A' c', Tk W W' t zs bo g A' c' rest' err' := by
  obtain ⟨A', c', h1, h2⟩ := ho
  exact ⟨A', c', h.bel.trans (h2.below h.bel.size fun i hi => by have := h.lo; unfold OnlyF at hi; omega), h.box.kp h2 (fun e => by have := h.lo; unfold OnlyF at e; omega), h1, h.lo, h.lg⟩
theorem Tk.call (h : Tk W Wi t zs bo g A c rest err) (hb : Below Wi.heap.size Wi W') : Tk W W' t zs bo g A c rest err :=
  ⟨h.bel.trans (hb.mono h.bel.size), h.box.below hb h.box.lt, h.op.kp (F := NoF) (Kp.of_below hb) (fun h => h.elim) (fun h => h.elim), h.lo, h.lg⟩
def TkRes (W : World) (t : TypeId) (zs : List Value) (bo g : Nat) (rest : List Int) (err : Int) (v : Value) (e : Ending) (W' : World) : Prop := ∃ A' c', e = .returned v ∧ Tk W W' t zs bo g A' c' rest err
theorem Tk.take (h : Tk W Wi t zs bo g A c rest 0) (k : Nat) (hk : k = 1 ∨ k = 2 ∨ k = 4 ∨ k = 8) (p q : List Int) (hr : rest = p ++ q) (hp : p.length = k) (hb : Byt rest) :
    Calls Tryz.prog 20 #[.pointer (some ⟨bo, 0, none⟩), .int .i64 k] Wi (TkRes W t zs bo g q 0 (.int .u64 (Pl.un p))) := by
  subst hr
  subst hp
  refine (take_any bo g A c p.length (p ++ q) Wi h.op hk (by simp) hb).mono fun e W' hh => ?_
  rw [List.take_left, List.drop_left] at hh
  obtain ⟨A', c', ht⟩ := h.of_opn hh.2
  exact ⟨A', c', hh.1, ht⟩
theorem Tk.name (n : Nat) (h : Tk W Wi t zs bo g A c ((n : Int) :: rest) 0) (hn : n ≤ rest.length) (h255 : n < 256) (hb : Byt rest) (hl : rest.length ≤ 1000000) :
    Calls Tryz.prog 82 #[.pointer (some ⟨bo, 0, none⟩)] Wi (TkRes W t zs bo g (rest.drop n) 0 (.string (strOfNums (rest.take n)))) := by
  refine (oname_any bo g A c n rest Wi h.op hn h255 hb hl).mono fun e W' hh => ?_
  obtain ⟨A', c', ht⟩ := h.of_opn hh.2
  exact ⟨A', c', hh.1, ht⟩
end
/-- what take answers of a sector -/
def takeV (gen first sec : Int) (note : ByteArray) (b : List Int) : Value :=
  if 64 < note.size then .tuple #[.agg #[.int .u64 0, .int .u64 0, .int .i64 0, .string ⟨#[]⟩], .bool false]
  else .tuple #[.agg #[.int .u64 gen, .int .u64 first, .int .i64 sec, .string note], .bool (decide (headB gen first sec.toNat note = b))]
set_option maxHeartbeats 2000000 in
set_option maxRecDepth 20000 in
theorem waltake_any (p q r rest : List Int) (n : Nat) (A : Option Addr) (c : Nat) (W : World) (hp : p.length = 8) (hq : q.length = 8) (hr : r.length = 2) (hn : n < 256) (hrest : rest.length = 493)
    (hb : Byt (p ++ (q ++ (r ++ ((n : Int) :: rest))))) (hm : Mem W W.heap.size A (bv (p ++ (q ++ (r ++ ((n : Int) :: rest)))))) (ht : Tab W) :
    Calls Tryz.prog 46 #[.slice A 512 c] W fun e W' => e = .returned (takeV (Pl.un p) (Pl.un q) (Pl.un r) (strOfNums (rest.take n)) (p ++ (q ++ (r ++ ((n : Int) :: rest))))) ∧ Below W.heap.size W W' := by
  have hl : (p ++ (q ++ (r ++ ((n : Int) :: rest)))).length = 512 := by simp [hp, hq, hr, hrest]
  have HB1 := hide hb.right
  have HB2 := hide hb.right.right
  have HB3 := hide (show Byt rest from fun x hx => hb.right.right.right x (List.mem_cons_of_mem _ hx))
  have HBy := hide hb
  have HL := hide hl
  have HM := hide hm
  have HTab := hide ht
  have hbz : Below W.heap.size W (W.alloc (.cells #[.int .u64 0, .int .u64 0, .int .i64 0, .string ⟨#[]⟩] 66)) := (Below.refl _ _).alloc (Nat.le_refl _) _
  have hbox := Whole.new W [.int .u64 0, .int .u64 0, .int .i64 0, .string ⟨#[]⟩] 66
  have hz1 : (W.alloc (.cells #[.int .u64 0, .int .u64 0, .int .i64 0, .string ⟨#[]⟩] 66)).heap.size = W.heap.size + 1 := by simp
  change Whole (W.alloc (.cells #[.int .u64 0, .int .u64 0, .int .i64 0, .string ⟨#[]⟩] 66)) _ _ _ at hbox
  have HBz := hide hbz
  have HBox := hide hbox
  obtain ⟨sec, hsec⟩ : ∃ sec : Nat, Pl.un r = sec := ⟨(Pl.un r).toNat, by have := (Pl.un_bound r fun x hx => hb.right.right.left x hx).1; omega⟩
  have hsl : sec < 65536 := by
    have := (Pl.un_bound r fun x hx => hb.right.right.left x hx).2
    rw [hr, hsec] at this
    have e : (256 : Int) ^ 2 = 65536 := by decide
    omega
  have hG := Pl.un_bound p fun x hx => hb.left x hx
  have hF := Pl.un_bound q fun x hx => hb.right.left x hx
  rw [hp] at hG
  rw [hq] at hF
  have hnt : (strOfNums (rest.take n)).size = n := by rw [strOfNums_size, List.length_take]; omega
  generalize hgen : Pl.un p = gen at *
  generalize hfir : Pl.un q = first at *
  generalize hnot : strOfNums (rest.take n) = nt at *
  have HGen := hide hgen
  have HFir := hide hfir
  have HNot := hide hnot
  have HSec := hide hsec
  have HG := hide hG
  have HF := hide hF
  have HNt := hide hnt
  clear hb hl hm ht hbz hbox hG hF hnt hsec hgen hfir hnot
  go_enter Tryz.func46, Tryz.ntmps46
  go_wp2_with fail
  generalize W.alloc (.cells #[.int .u64 0, .int .u64 0, .int .i64 0, .string ⟨#[]⟩] 66) = wz at *
  have hof := of_any A _ c wz ((HM.out.below HBz.out).mono HBz.out.size) (by rw [HL.out]; decide)
  rw [HL.out] at hof
  refine hof.mono ?_
  rintro e w1 ⟨bo, g, A1, c1, rfl, ho, hb, hb1, hb2⟩
  have HK1 := hide (show Tk W w1 66 [.int .u64 0, .int .u64 0, .int .i64 0, .string ⟨#[]⟩] bo g A1 c1 (p ++ (q ++ (r ++ ((n : Int) :: rest)))) 0 from ⟨HBz.out.trans (hb.mono HBz.out.size), HBox.out.below hb HBox.out.lt, ho, by omega, by omega⟩)
  clear ho hb hb1 hb2 hof HBz HBox
  go_wp2_with fail
  refine (HK1.out.take 8 (by simp) p _ rfl hp HBy.out).mono ?_
  rintro e w2 ⟨A2, c2, rfl, hk⟩
  rw [HGen.out]
  have HK2 := hide hk
  clear hk HK1
  go_wp2_with fail
  refine (HK2.out.take 8 (by simp) q _ rfl hq HB1.out).mono ?_
  rintro e w3 ⟨A3, c3, rfl, hk⟩
  rw [HFir.out]
  have HK3 := hide hk
  clear hk HK2
  go_wp2_with fail
  refine (HK3.out.take 2 (by simp) r _ rfl hr HB2.out).mono ?_
  rintro e w4 ⟨A4, c4, rfl, hk⟩
  have HK4 := hide hk
  clear hk HK3
  rw [HSec.out]
  have hw : IntKind.i64.wrap (sec : Int) = sec := IntWalk.i64_in _ (by omega)
  go_wp2_with fail
  refine (HK4.out.name n (by omega) hn HB3.out (by omega)).mono ?_
  rintro e w5 ⟨A5, c5, rfl, hk⟩
  rw [HNot.out]
  have HK5 := hide hk
  clear hk HK4
  go_wp2_with fail
  have hb6 : Below w5.heap.size w5 (w5.alloc (.cells #[.int .u64 gen, .int .u64 first, .int .i64 sec, .string nt] 66)) := (Below.refl _ _).alloc (Nat.le_refl _) _
  have hbx6 := Whole.new w5 [.int .u64 gen, .int .u64 first, .int .i64 sec, .string nt] 66
  change Whole (w5.alloc (.cells #[.int .u64 gen, .int .u64 first, .int .i64 sec, .string nt] 66)) _ _ _ at hbx6
  have hgt : W.heap.size < w5.heap.size := HK5.out.box.lt
  have HK6 := hide (HK5.out.call hb6)
  have HX6 := hide hbx6
  clear HK5 hb6 hbx6
  generalize w5.alloc (.cells #[.int .u64 gen, .int .u64 first, .int .i64 sec, .string nt] 66) = w6 at *
  generalize w5.heap.size = bh at *
  have hne : ¬ W.heap.size = bh := by omega
  have hne2 : ¬ bh = W.heap.size := by omega
  have b0 := HX6.out.cell 0
  have b1 := HX6.out.cell 1
  have b2 := HX6.out.cell 2
  have b3 := HX6.out.cell 3
  have z0 := HK6.out.box.cell 0
  have z1 := HK6.out.box.cell 1
  have z2 := HK6.out.box.cell 2
  have z3 := HK6.out.box.cell 3
  have f0 := HK6.out.box.frozen 0
  have f1 := HK6.out.box.frozen 1
  have f2 := HK6.out.box.frozen 2
  have f3 := HK6.out.box.frozen 3
  refine (err_any bo g A5 c5 _ 0 w6 HK6.out.op).mono ?_
  rintro e w7 ⟨rfl, rfl⟩
  by_cases hbig : 64 < nt.size
  · go_wp2_with fail
    have h1 := (((HK6.out.box.set_ 0 (.int .u64 0)).set_ 1 (.int .u64 0)).set_ 2 (.int .i64 0)).set_ 3 (.string ⟨#[]⟩)
    have HBf := hide ((((HK6.out.bel.setCell (p := ⟨W.heap.size, 0, none⟩) (Nat.le_refl _) (.int .u64 0)).setCell (p := ⟨W.heap.size, 1, none⟩) (Nat.le_refl _) (.int .u64 0)).setCell (p := ⟨W.heap.size, 2, none⟩) (Nat.le_refl _) (.int .i64 0)).setCell (p := ⟨W.heap.size, 3, none⟩) (Nat.le_refl _) (.string ⟨#[]⟩))
    generalize (((w6.setCell ⟨W.heap.size, 0, none⟩ (.int .u64 0)).setCell ⟨W.heap.size, 1, none⟩ (.int .u64 0)).setCell ⟨W.heap.size, 2, none⟩ (.int .i64 0)).setCell ⟨W.heap.size, 3, none⟩ (.string ⟨#[]⟩) = wf at *
    clear z0 z1 z2 z3 f0 f1 f2 f3
    have k0 := h1.cell 0
    have k1 := h1.cell 1
    have k2 := h1.cell 2
    have k3 := h1.cell 3
    exact bodyPost_ret (v := .tuple #[.agg #[.int .u64 0, .int .u64 0, .int .i64 0, .string ⟨#[]⟩], .bool false]) (by simp [results, Tryz.results46, go_sem, k0, k1, k2, k3]) rfl ⟨by rw [takeV, if_pos hbig], HBf.out⟩
  · go_upto_region 5 with fail
    have HBK := hide HK6.out.bel
    have hbl := HX6.out.lt
    have HH := hide (show ∀ W', Below W.heap.size W W' → Tab W' from fun W' h => HTab.out.below h)
    have HXs := hide (show takeV gen first (Pl.un r) nt (p ++ (q ++ (r ++ ((n : Int) :: rest)))) = .tuple #[.agg #[.int .u64 gen, .int .u64 first, .int .i64 sec, .string nt], .bool (decide (headB gen first sec nt = p ++ (q ++ (r ++ ((n : Int) :: rest)))))] by
      rw [takeV, if_neg hbig, HSec.out, Int.toNat_natCast])
    generalize hxs : p ++ (q ++ (r ++ ((n : Int) :: rest))) = xs at *
    have HXe := hide hxs
    clear hxs
    refine wp_region_held_drew (S := (fun w' => Kp (OnlyF W.heap.size) w6 w')) (by kernel_rfl) ((Kp.refl _ _).drew) (fun hHeld => ?_)
    have HBd := hide (HBK.out.trans (((Below.refl w6.heap.size w6).drew).mono HBK.out.size))
    have HKd := hide (HK6.out.call ((Below.refl _ _).drew))
    generalize w6.drew = wd at *
    refine wpAnyH_take (i := 0) (v := ?vq1) rfl (by kernel_rfl) (by kernel_rfl) (by kernel_rfl) (fun _ _ _ h => h) (Or.inl ⟨by rfl, ?hq1⟩) (by assumption) ?rq1
    case hq1 => (intro wq hSw; have e0 := (hSw.cell (p := ⟨bh, 0, none⟩) hbl hne2).trans b0; have e1 := (hSw.cell (p := ⟨bh, 1, none⟩) hbl hne2).trans b1; have e2 := (hSw.cell (p := ⟨bh, 2, none⟩) hbl hne2).trans b2; have e3 := (hSw.cell (p := ⟨bh, 3, none⟩) hbl hne2).trans b3; go_simp; (try with_reducible rfl))
    try simp only [Act.put, List.getElem_toArray, List.getElem_cons_zero, List.setIfInBounds_toArray, List.set_cons_zero, List.set_cons_succ]
    refine wpAnyH_take (i := 1) (v := ?vq2) rfl (by kernel_rfl) (by kernel_rfl) (by kernel_rfl) (fun _ _ _ h => h) (Or.inl ⟨by rfl, ?hq2⟩) (by assumption) ?rq2
    case hq2 => (intro wq hSw; have e0 := (hSw.cell (p := ⟨bh, 0, none⟩) hbl hne2).trans b0; have e1 := (hSw.cell (p := ⟨bh, 1, none⟩) hbl hne2).trans b1; have e2 := (hSw.cell (p := ⟨bh, 2, none⟩) hbl hne2).trans b2; have e3 := (hSw.cell (p := ⟨bh, 3, none⟩) hbl hne2).trans b3; go_simp; (try with_reducible rfl))
    try simp only [Act.put, List.getElem_toArray, List.getElem_cons_zero, List.getElem_cons_succ, List.setIfInBounds_toArray, List.set_cons_zero, List.set_cons_succ]
    refine wpAnyH_take (i := 3) (v := ?vq3) rfl (by kernel_rfl) (by kernel_rfl) (by kernel_rfl) (fun _ _ _ h => h) (Or.inl ⟨by rfl, ?hq3⟩) (by assumption) ?rq3
    case hq3 => (intro wq hSw; go_simp; (try with_reducible rfl))
    try simp only [Act.put, List.getElem_toArray, List.getElem_cons_zero, List.getElem_cons_succ, List.setIfInBounds_toArray, List.set_cons_zero, List.set_cons_succ]
    refine wpAnyH_ready (rs := [2]) (by kernel_rfl) (by simp) ?_
    refine AllReadyH.cons (o := _) rfl (fun K hK => ?_) AllReadyH.nil
    go_simp
    refine (headput_any gen first sec nt wd HG.out.1 (by have := HG.out.2; omega) HF.out.1 (by have := HF.out.2; omega) hsl (by have := HNt.out; omega) (HH.out _ HBd.out)).mono ?_
    rintro e w8 ⟨A8, k8, rfl, ho, hb⟩
    have HO8 := hide (owns_mem ho)
    have HK8 := hide (HKd.out.call hb)
    have HL8 := hide (headB_len gen first sec nt (by have := HNt.out; omega))
    have HY8 := hide (headB_byt gen first sec nt (by have := HNt.out; omega))
    have HKp8 := hide (hHeld.same (Kp.of_below hb))
    clear ho hb HKd
    refine hK.out _ _ (HKp8.out) (fun hHeld => ?_)
    clear hK K 
    try simp only [Act.put, List.getElem_toArray, List.getElem_cons_zero, List.getElem_cons_succ, List.setIfInBounds_toArray, List.set_cons_zero, List.set_cons_succ]
    refine wpAnyH_ready (rs := [4]) (by kernel_rfl) (by simp) ?_
    refine AllReadyH.cons (o := _) rfl (fun K hK => ?_) AllReadyH.nil
    go_simp
    have heq := equal_any A8 A (headB gen first sec nt) xs k8 c _ _ w8 HO8.out (HM.out.below HK8.out.bel) HY8.out HBy.out
    rw [HL8.out, HL.out] at heq
    refine heq.mono ?_
    rintro e w9 ⟨rfl, rfl⟩
    refine hK.out _ _ (HKp8.out) (fun hHeld => ?_)
    clear hK K 
    try simp only [Act.put, List.getElem_toArray, List.getElem_cons_zero, List.getElem_cons_succ, List.setIfInBounds_toArray, List.set_cons_zero, List.set_cons_succ]
    generalize decide (headB gen first sec nt = xs) = bb at *
    refine wpAnyH_ready (rs := [5]) (by kernel_rfl) (by simp) ?_
    refine AllReadyH.cons (o := _) rfl (fun K hK => ?_) ?_
    · skip
      have y0 := HK8.out.box.cell 0
      have x0 := HK8.out.box.frozen 0
      have y1 := HK8.out.box.cell 1
      have x1 := HK8.out.box.frozen 1
      have y2 := HK8.out.box.cell 2
      have x2 := HK8.out.box.frozen 2
      have y3 := HK8.out.box.cell 3
      have x3 := HK8.out.box.frozen 3
      go_simp
      have h1 := (((HK8.out.box.set_ 0 (.int .u64 gen)).set_ 1 (.int .u64 first)).set_ 2 (.int .i64 sec)).set_ 3 (.string nt)
      have HKf := hide ((((HKp8.out.setCell (p := ⟨W.heap.size, 0, none⟩) (.inl rfl) (.int .u64 gen)).setCell (p := ⟨W.heap.size, 1, none⟩) (.inl rfl) (.int .u64 first)).setCell (p := ⟨W.heap.size, 2, none⟩) (.inl rfl) (.int .i64 sec)).setCell (p := ⟨W.heap.size, 3, none⟩) (.inl rfl) (.string nt))
      have HBf := hide ((((HK8.out.bel.setCell (p := ⟨W.heap.size, 0, none⟩) (Nat.le_refl _) (.int .u64 gen)).setCell (p := ⟨W.heap.size, 1, none⟩) (Nat.le_refl _) (.int .u64 first)).setCell (p := ⟨W.heap.size, 2, none⟩) (Nat.le_refl _) (.int .i64 sec)).setCell (p := ⟨W.heap.size, 3, none⟩) (Nat.le_refl _) (.string nt))
      generalize (((w8.setCell ⟨W.heap.size, 0, none⟩ (.int .u64 gen)).setCell ⟨W.heap.size, 1, none⟩ (.int .u64 first)).setCell ⟨W.heap.size, 2, none⟩ (.int .i64 sec)).setCell ⟨W.heap.size, 3, none⟩ (.string nt) = wf at *
      refine hK.out _ _ (HKf.out) (fun hHeld => ?_)
      clear hK K y0 x0 y1 x1 y2 x2 y3 x3
      try simp only [Act.put, List.getElem_toArray, List.getElem_cons_zero, List.getElem_cons_succ, List.setIfInBounds_toArray, List.set_cons_zero, List.set_cons_succ]
      refine wpAnyH_ready (rs := [6]) (by kernel_rfl) (by simp) ?_
      refine AllReadyH.cons (o := _) rfl (fun K hK => ?_) ?_
      · skip
        go_simp
        refine hK.out _ _ (HKf.out) (fun hHeld => ?_)
        clear hK K 
        try simp only [Act.put, List.getElem_toArray, List.getElem_cons_zero, List.getElem_cons_succ, List.setIfInBounds_toArray, List.set_cons_zero, List.set_cons_succ]
        refine wpAnyH_done (by kernel_rfl) ?_ _
        clear z0 z1 z2 z3 f0 f1 f2 f3 b0 b1 b2 b3
        have k0 := h1.cell 0
        have k1 := h1.cell 1
        have k2 := h1.cell 2
        have k3 := h1.cell 3
        go_wp2_with fail
        exact bodyPost_ret (v := .tuple #[.agg #[.int .u64 gen, .int .u64 first, .int .i64 sec, .string nt], .bool bb]) (by simp [results, Tryz.results46, go_sem, k0, k1, k2, k3]) rfl ⟨by rw [HXe.out, HXs.out], HBf.out⟩
      exact AllReadyH.nil
    exact AllReadyH.nil
end Go.Proofs.YtccnihdkjcjeoaaGreatDoor
namespace Go.Proofs.YtccnihdkjcjeoaaGreatDoor
open Go.RowKit Go.Shelf

def kindOf (last : Bool) : Int := if last then 2 else 1
/-- a sheet's sector, ahead of its checksum -/
def sheetA (seq : Int) (last : Bool) (text : ByteArray) : List Int := [] ++ Pl.be 8 seq ++ Pl.be 1 (kindOf last) ++ Pl.be 2 text.size ++ bs text ++ List.replicate (497 - text.size) 0
def sheetB (seq : Int) (last : Bool) (text : ByteArray) : List Int := sheetA seq last text ++ Pl.be 4 (rev32 (crc (sheetA seq last text)))
theorem sheetA_len (seq : Int) (last : Bool) (text : ByteArray) (h : text.size ≤ 497) : (sheetA seq last text).length = 508 := by
  simp [sheetA, Pl.be_len, bs_len]
  omega
theorem sheetB_len (seq : Int) (last : Bool) (text : ByteArray) (h : text.size ≤ 497) : (sheetB seq last text).length = 512 := by
  rw [sheetB, List.length_append, sheetA_len _ _ _ h, Pl.be_len]
theorem sheetA_byt (seq : Int) (last : Bool) (text : ByteArray) : Byt (sheetA seq last text) :=
  Byt.app (Byt.app (Byt.app (Byt.app (Byt.app (fun x hx => by cases hx) (Pl.be_byt _ _)) (Pl.be_byt _ _)) (Pl.be_byt _ _)) (bs_byt text)) (zeros_byt _)
theorem sheetB_byt (seq : Int) (last : Bool) (text : ByteArray) : Byt (sheetB seq last text) := Byt.app (sheetA_byt _ _ _) (Pl.be_byt _ _)
/-- what Put of a sheet hands back -/
def SheetRes (seq : Int) (last : Bool) (text : ByteArray) (W : World) (e : Ending) (W' : World) : Prop :=
  ∃ A c, e = .returned (.tuple #[.slice A 512 c, .int .i64 0]) ∧ W'.ownsRow W.heap.size 5 1 (.slice A 512 c) 512 (bv (sheetB seq last text)) ∧ Below W.heap.size W W'
set_option maxHeartbeats 400000 in
theorem sheetput_far (seq : Int) (last : Bool) (text : ByteArray) (W : World) (hn : 497 < text.size) :
    Calls Tryz.prog 85 #[.agg #[.int .u64 seq, .bool last, .string text]] W fun e W' => e = .returned (.tuple #[.slice none 0 0, .int .i64 6]) ∧ Below W.heap.size W W' := by
  go_enter Tryz.func85, Tryz.ntmps85
  go_wp2_with fail
  go_ret2
  exact ⟨rfl, (Below.refl _ _).alloc (Nat.le_refl _) _⟩
set_option maxHeartbeats 4000000 in
set_option maxRecDepth 20000 in
theorem sheetput_any (seq : Int) (last : Bool) (text : ByteArray) (W : World) (hs0 : 0 ≤ seq) (hs1 : seq < 18446744073709551616) (hn : text.size ≤ 497) (ht : Tab W) :
    Calls Tryz.prog 85 #[.agg #[.int .u64 seq, .bool last, .string text]] W (SheetRes seq last text W) := by
  have HS := hide (show 0 ≤ seq ∧ seq < 2 ^ (8 * 8) from ⟨hs0, hs1⟩)
  have hw2 : IntKind.u64.wrap (text.size : Int) = text.size := by rw [IntKind.wrap_u64]; omega
  have HTab := hide ht
  clear hs0 hs1 ht
  have hb0 : Below W.heap.size W (W.alloc (.cells #[.int .u64 seq, .bool last, .string text] 97)) := (Below.refl _ _).alloc (Nat.le_refl _) _
  have hbox := Whole.new W [.int .u64 seq, .bool last, .string text] 97
  change Whole (W.alloc (.cells #[.int .u64 seq, .bool last, .string text] 97)) _ _ _ at hbox
  have HB0 := hide hb0
  have HBox := hide hbox
  have hbl := hbox.lt
  clear hb0 hbox
  cases hlast : last
  · subst hlast
    go_enter Tryz.func85, Tryz.ntmps85
    go_upto_region 6 with fail
    generalize W.alloc (.cells #[.int .u64 seq, .bool false, .string text] 97) = wb at *
    have b0 := HBox.out.cell 0
    have b1 := HBox.out.cell 1
    have b2 := HBox.out.cell 2
    go_cut [5] (fun s5 wx => ∃ bp v, s5 = .pointer (some ⟨bp, 0, none⟩) ∧ PkB wb wx bp v ([] ++ Pl.be 8 seq ++ Pl.be 1 1 ++ Pl.be 2 text.size ++ bs text))
    case first =>
      refine wp_region_held_drew (S := (fun w' => Below wb.heap.size wb w')) (by kernel_rfl) ((Below.refl _ _).drew) (fun hHeld => ?_)
      generalize wb.drew = wd at *
      refine wpAnyH_take (i := 1) (v := ?vaq1) rfl (by kernel_rfl) (by kernel_rfl) (by kernel_rfl) (fun _ _ _ h => h) (Or.inl ⟨by rfl, ?haq1⟩) (by assumption) ?raq1
      case haq1 => (intro wq hSw; go_simp; (try with_reducible rfl))
      try simp only [Act.put, List.getElem_toArray, List.getElem_cons_zero, List.getElem_cons_succ, List.setIfInBounds_toArray, List.set_cons_zero, List.set_cons_succ]
      refine wpAnyH_take (i := 2) (v := ?vaq2) rfl (by kernel_rfl) (by kernel_rfl) (by kernel_rfl) (fun _ _ _ h => h) (Or.inl ⟨by rfl, ?haq2⟩) (by assumption) ?raq2
      case haq2 => (intro wq hSw; have e := (hSw.cell (p := ⟨W.heap.size, 0, none⟩) hbl).trans b0; go_simp; (try with_reducible rfl))
      try simp only [Act.put, List.getElem_toArray, List.getElem_cons_zero, List.getElem_cons_succ, List.setIfInBounds_toArray, List.set_cons_zero, List.set_cons_succ]
      refine wpAnyH_take (i := 4) (v := ?vaq3) rfl (by kernel_rfl) (by kernel_rfl) (by kernel_rfl) (fun _ _ _ h => h) (Or.inl ⟨by rfl, ?haq3⟩) (by assumption) ?raq3
      case haq3 => (intro wq hSw; go_simp; (try with_reducible rfl))
      try simp only [Act.put, List.getElem_toArray, List.getElem_cons_zero, List.getElem_cons_succ, List.setIfInBounds_toArray, List.set_cons_zero, List.set_cons_succ]
      refine wpAnyH_take (i := 6) (v := ?vaq4) rfl (by kernel_rfl) (by kernel_rfl) (by kernel_rfl) (fun _ _ _ h => h) (Or.inl ⟨by rfl, ?haq4⟩) (by assumption) ?raq4
      case haq4 => (intro wq hSw; go_simp; (try with_reducible rfl))
      try simp only [Act.put, List.getElem_toArray, List.getElem_cons_zero, List.getElem_cons_succ, List.setIfInBounds_toArray, List.set_cons_zero, List.set_cons_succ]
      refine wpAnyH_take (i := 7) (v := ?vaq5) rfl (by kernel_rfl) (by kernel_rfl) (by kernel_rfl) (fun _ _ _ h => h) (Or.inl ⟨by rfl, ?haq5⟩) (by assumption) ?raq5
      case haq5 => (intro wq hSw; have e := (hSw.cell (p := ⟨W.heap.size, 2, none⟩) hbl).trans b2; go_simp; (try with_reducible rfl))
      try simp only [Act.put, List.getElem_toArray, List.getElem_cons_zero, List.getElem_cons_succ, List.setIfInBounds_toArray, List.set_cons_zero, List.set_cons_succ]
      refine wpAnyH_take (i := 8) (v := ?vaq6) rfl (by kernel_rfl) (by kernel_rfl) (by kernel_rfl) (fun _ _ _ h => h) (Or.inl ⟨by rfl, ?haq6⟩) (by assumption) ?raq6
      case haq6 => (intro wq hSw; go_simp; (try with_reducible rfl))
      try simp only [Act.put, List.getElem_toArray, List.getElem_cons_zero, List.getElem_cons_succ, List.setIfInBounds_toArray, List.set_cons_zero, List.set_cons_succ]
      refine wpAnyH_take (i := 9) (v := ?vaq7) rfl (by kernel_rfl) (by kernel_rfl) (by kernel_rfl) (fun _ _ _ h => h) (Or.inl ⟨by rfl, ?haq7⟩) (by assumption) ?raq7
      case haq7 => (intro wq hSw; go_simp; (try with_reducible rfl))
      try simp only [Act.put, List.getElem_toArray, List.getElem_cons_zero, List.getElem_cons_succ, List.setIfInBounds_toArray, List.set_cons_zero, List.set_cons_succ]
      refine wpAnyH_take (i := 11) (v := ?vaq8) rfl (by kernel_rfl) (by kernel_rfl) (by kernel_rfl) (fun _ _ _ h => h) (Or.inl ⟨by rfl, ?haq8⟩) (by assumption) ?raq8
      case haq8 => (intro wq hSw; go_simp; (try with_reducible rfl))
      try simp only [Act.put, List.getElem_toArray, List.getElem_cons_zero, List.getElem_cons_succ, List.setIfInBounds_toArray, List.set_cons_zero, List.set_cons_succ]
      refine wpAnyH_take (i := 12) (v := ?vaq9) rfl (by kernel_rfl) (by kernel_rfl) (by kernel_rfl) (fun _ _ _ h => h) (Or.inl ⟨by rfl, ?haq9⟩) (by assumption) ?raq9
      case haq9 => (intro wq hSw; have e := (hSw.cell (p := ⟨W.heap.size, 2, none⟩) hbl).trans b2; go_simp; (try with_reducible rfl))
      try simp only [Act.put, List.getElem_toArray, List.getElem_cons_zero, List.getElem_cons_succ, List.setIfInBounds_toArray, List.set_cons_zero, List.set_cons_succ]
      refine wpAnyH_ready (rs := [0]) (by kernel_rfl) (by simp) ?_
      refine AllReadyH.cons (o := _) rfl (fun K hK => ?_) AllReadyH.nil
      go_simp
      refine (new_any _).mono ?_
      rintro e w1 ⟨rfl, rfl⟩
      have HP0 := hide (PkB.start hHeld)
      generalize wd.alloc (.cells #[.slice none 0 0, .int .i64 0] 136) = wp at *
      generalize wd.heap.size = bp at *
      refine hK.out _ _ (HP0.out.bel) (fun hHeld => ?_)
      clear hK K 
      try simp only [Act.put, List.getElem_toArray, List.getElem_cons_zero, List.getElem_cons_succ, List.setIfInBounds_toArray, List.set_cons_zero, List.set_cons_succ]
      refine wpAnyH_ready (rs := [3]) (by kernel_rfl) (by simp) ?_
      refine AllReadyH.cons (o := _) rfl (fun K hK => ?_) AllReadyH.nil
      go_simp
      refine (HP0.out.put 8 seq (by simp) (by omega) HS.out.1 HS.out.2).mono ?_
      rintro e w2 ⟨v2, rfl, hp⟩
      have HP1 := hide hp
      clear hp
      refine hK.out _ _ (HP1.out.bel) (fun hHeld => ?_)
      clear hK K 
      try simp only [Act.put, List.getElem_toArray, List.getElem_cons_zero, List.getElem_cons_succ, List.setIfInBounds_toArray, List.set_cons_zero, List.set_cons_succ]
      refine wpAnyH_ready (rs := [5]) (by kernel_rfl) (by simp) ?_
      refine AllReadyH.cons (o := _) rfl (fun K hK => ?_) AllReadyH.nil
      go_simp
      refine (HP1.out.put 1 1 (by simp [Pl.be_len]) (by omega) (by omega) (by omega)).mono ?_
      rintro e w3 ⟨v3, rfl, hp⟩
      have HP2 := hide hp
      clear hp
      refine hK.out _ _ (HP2.out.bel) (fun hHeld => ?_)
      clear hK K 
      try simp only [Act.put, List.getElem_toArray, List.getElem_cons_zero, List.getElem_cons_succ, List.setIfInBounds_toArray, List.set_cons_zero, List.set_cons_succ]
      refine wpAnyH_ready (rs := [10]) (by kernel_rfl) (by simp) ?_
      refine AllReadyH.cons (o := _) rfl (fun K hK => ?_) AllReadyH.nil
      go_simp
      refine (HP2.out.put 2 text.size (by simp [Pl.be_len]) (by omega) (by omega) (by omega)).mono ?_
      rintro e w4 ⟨v4, rfl, hp⟩
      have HP3 := hide hp
      clear hp
      refine hK.out _ _ (HP3.out.bel) (fun hHeld => ?_)
      clear hK K 
      try simp only [Act.put, List.getElem_toArray, List.getElem_cons_zero, List.getElem_cons_succ, List.setIfInBounds_toArray, List.set_cons_zero, List.set_cons_succ]
      refine wpAnyH_ready (rs := [13]) (by kernel_rfl) (by simp) ?_
      refine AllReadyH.cons (o := _) rfl (fun K hK => ?_) AllReadyH.nil
      go_simp
      refine (HP3.out.text text (by simp [Pl.be_len]; omega)).mono ?_
      rintro e w5 ⟨v5, rfl, hp⟩
      have HP4 := hide hp
      clear hp
      refine hK.out _ _ (HP4.out.bel) (fun hHeld => ?_)
      clear hK K 
      try simp only [Act.put, List.getElem_toArray, List.getElem_cons_zero, List.getElem_cons_succ, List.setIfInBounds_toArray, List.set_cons_zero, List.set_cons_succ]
      refine wpAnyH_take (i := 14) (v := ?vaq10) rfl (by kernel_rfl) (by kernel_rfl) (by kernel_rfl) (fun _ _ _ h => h) (Or.inl ⟨by rfl, ?haq10⟩) (by assumption) ?raq10
      case haq10 => (intro wq hSw; go_simp; (try with_reducible rfl))
      try simp only [Act.put, List.getElem_toArray, List.getElem_cons_zero, List.getElem_cons_succ, List.setIfInBounds_toArray, List.set_cons_zero, List.set_cons_succ]
      refine wpAnyH_done (by kernel_rfl) ?_ _
      go_wp2_with fail
      go_meet
      exact ⟨_, _, rfl, HP4.out⟩
    case rest =>
      obtain ⟨bp, v, rfl, hp⟩ := hcut
      have HP := hide hp
      have c3 := (hp.bel.cell (p := ⟨W.heap.size, 2, none⟩) hbl).trans b2
      clear hp b0 b1 b2
      have hx4 : (497 : Int) - (text.size : Int) = ((497 - text.size : Nat) : Int) := by omega
      go_wp2_with fail
      refine (repeat_any (497 - text.size) wc (by omega)).mono ?_
      rintro e w1 ⟨rfl, hb⟩
      have HP1 := hide (HP.out.next hb)
      clear hb c3 HP
      go_wp2_with fail
      refine (HP1.out.text (zerosT (497 - text.size)) (by rw [zerosT_size]; simp [Pl.be_len, bs_len]; omega)).mono ?_
      rintro e w2 ⟨v2, rfl, hp⟩
      rw [zerosT_bs] at hp
      have HP2 := hide (show PkB wb w2 bp v2 (sheetA seq false text) from hp)
      clear hp HP1
      have HL := hide (sheetA_len seq false text (by omega))
      have HBy := hide (sheetA_byt seq false text)
      have HE := hide (show sheetA seq false text ++ Pl.be 4 (rev32 (crc (sheetA seq false text))) = sheetB seq false text from rfl)
      have HCr := hide (rev_bound (crc (sheetA seq false text)))
      have HLB := hide (sheetB_len seq false text (by omega))
      generalize sheetA seq false text = hA at *
      generalize hhB : sheetB seq false text = hB at HE HLB
      have HhB := hide hhB
      clear hhB
      go_wp2_with fail
      refine (HP2.out.bytes (by rw [HL.out]; decide)).mono ?_
      rintro e w3 ⟨A3, k3, rfl, hp, ho⟩
      have HP3 := hide hp
      have HM3 := hide (owns_mem ho)
      have HT3 := hide (HTab.out.below (HB0.out.trans (hp.bel.mono HB0.out.size)))
      clear hp ho HP2
      go_wp2_with fail
      refine (sum_any A3 hA k3 _ w3 HM3.out HBy.out (by rw [HL.out]; decide) HT3.out).mono ?_
      rintro e w4 ⟨rfl, rfl⟩
      generalize crc hA = cr0 at *
      go_wp2_with fail
      refine (rev_any cr0 w3).mono ?_
      rintro e w4 ⟨rfl, rfl⟩
      have hw4 : IntKind.u64.wrap (rev32 cr0) = rev32 cr0 := by rw [IntKind.wrap_u64]; have := HCr.out; omega
      generalize rev32 cr0 = cr at *
      go_wp2_with fail
      refine (HP3.out.put 4 cr (by rw [HL.out]; decide) (by omega) HCr.out.1 (by have := HCr.out.2; omega)).mono ?_
      rintro e w5 ⟨v5, rfl, hp⟩
      rw [HE.out] at hp
      have HP5 := hide hp
      clear hp HP3
      go_wp2_with fail
      refine (HP5.out.bytes (by rw [HLB.out]; decide)).mono ?_
      rintro e w6 ⟨A6, k6, rfl, hp, ho⟩
      rw [HLB.out] at ho ⊢
      have HP6 := hide hp
      have HO6 := hide (owns_base ho fun g hg => Nat.le_trans HB0.out.size (ho.lt g hg).1)
      have HB6 := hide (HB0.out.trans (hp.bel.mono HB0.out.size))
      clear hp ho
      go_wp2_with fail
      go_ret2
      exact ⟨A6, k6, rfl, by rw [HhB.out]; exact HO6.out, HB6.out⟩
  · subst hlast
    go_enter Tryz.func85, Tryz.ntmps85
    go_upto_region 6 with fail
    generalize W.alloc (.cells #[.int .u64 seq, .bool true, .string text] 97) = wb at *
    have b0 := HBox.out.cell 0
    have b1 := HBox.out.cell 1
    have b2 := HBox.out.cell 2
    go_cut [5] (fun s5 wx => ∃ bp v, s5 = .pointer (some ⟨bp, 0, none⟩) ∧ PkB wb wx bp v ([] ++ Pl.be 8 seq ++ Pl.be 1 2 ++ Pl.be 2 text.size ++ bs text))
    case first =>
      refine wp_region_held_drew (S := (fun w' => Below wb.heap.size wb w')) (by kernel_rfl) ((Below.refl _ _).drew) (fun hHeld => ?_)
      generalize wb.drew = wd at *
      refine wpAnyH_take (i := 1) (v := ?vbq1) rfl (by kernel_rfl) (by kernel_rfl) (by kernel_rfl) (fun _ _ _ h => h) (Or.inl ⟨by rfl, ?hbq1⟩) (by assumption) ?rbq1
      case hbq1 => (intro wq hSw; go_simp; (try with_reducible rfl))
      try simp only [Act.put, List.getElem_toArray, List.getElem_cons_zero, List.getElem_cons_succ, List.setIfInBounds_toArray, List.set_cons_zero, List.set_cons_succ]
      refine wpAnyH_take (i := 2) (v := ?vbq2) rfl (by kernel_rfl) (by kernel_rfl) (by kernel_rfl) (fun _ _ _ h => h) (Or.inl ⟨by rfl, ?hbq2⟩) (by assumption) ?rbq2
      case hbq2 => (intro wq hSw; have e := (hSw.cell (p := ⟨W.heap.size, 0, none⟩) hbl).trans b0; go_simp; (try with_reducible rfl))
      try simp only [Act.put, List.getElem_toArray, List.getElem_cons_zero, List.getElem_cons_succ, List.setIfInBounds_toArray, List.set_cons_zero, List.set_cons_succ]
      refine wpAnyH_take (i := 4) (v := ?vbq3) rfl (by kernel_rfl) (by kernel_rfl) (by kernel_rfl) (fun _ _ _ h => h) (Or.inl ⟨by rfl, ?hbq3⟩) (by assumption) ?rbq3
      case hbq3 => (intro wq hSw; go_simp; (try with_reducible rfl))
      try simp only [Act.put, List.getElem_toArray, List.getElem_cons_zero, List.getElem_cons_succ, List.setIfInBounds_toArray, List.set_cons_zero, List.set_cons_succ]
      refine wpAnyH_take (i := 6) (v := ?vbq4) rfl (by kernel_rfl) (by kernel_rfl) (by kernel_rfl) (fun _ _ _ h => h) (Or.inl ⟨by rfl, ?hbq4⟩) (by assumption) ?rbq4
      case hbq4 => (intro wq hSw; go_simp; (try with_reducible rfl))
      try simp only [Act.put, List.getElem_toArray, List.getElem_cons_zero, List.getElem_cons_succ, List.setIfInBounds_toArray, List.set_cons_zero, List.set_cons_succ]
      refine wpAnyH_take (i := 7) (v := ?vbq5) rfl (by kernel_rfl) (by kernel_rfl) (by kernel_rfl) (fun _ _ _ h => h) (Or.inl ⟨by rfl, ?hbq5⟩) (by assumption) ?rbq5
      case hbq5 => (intro wq hSw; have e := (hSw.cell (p := ⟨W.heap.size, 2, none⟩) hbl).trans b2; go_simp; (try with_reducible rfl))
      try simp only [Act.put, List.getElem_toArray, List.getElem_cons_zero, List.getElem_cons_succ, List.setIfInBounds_toArray, List.set_cons_zero, List.set_cons_succ]
      refine wpAnyH_take (i := 8) (v := ?vbq6) rfl (by kernel_rfl) (by kernel_rfl) (by kernel_rfl) (fun _ _ _ h => h) (Or.inl ⟨by rfl, ?hbq6⟩) (by assumption) ?rbq6
      case hbq6 => (intro wq hSw; go_simp; (try with_reducible rfl))
      try simp only [Act.put, List.getElem_toArray, List.getElem_cons_zero, List.getElem_cons_succ, List.setIfInBounds_toArray, List.set_cons_zero, List.set_cons_succ]
      refine wpAnyH_take (i := 9) (v := ?vbq7) rfl (by kernel_rfl) (by kernel_rfl) (by kernel_rfl) (fun _ _ _ h => h) (Or.inl ⟨by rfl, ?hbq7⟩) (by assumption) ?rbq7
      case hbq7 => (intro wq hSw; go_simp; (try with_reducible rfl))
      try simp only [Act.put, List.getElem_toArray, List.getElem_cons_zero, List.getElem_cons_succ, List.setIfInBounds_toArray, List.set_cons_zero, List.set_cons_succ]
      refine wpAnyH_take (i := 11) (v := ?vbq8) rfl (by kernel_rfl) (by kernel_rfl) (by kernel_rfl) (fun _ _ _ h => h) (Or.inl ⟨by rfl, ?hbq8⟩) (by assumption) ?rbq8
      case hbq8 => (intro wq hSw; go_simp; (try with_reducible rfl))
      try simp only [Act.put, List.getElem_toArray, List.getElem_cons_zero, List.getElem_cons_succ, List.setIfInBounds_toArray, List.set_cons_zero, List.set_cons_succ]
      refine wpAnyH_take (i := 12) (v := ?vbq9) rfl (by kernel_rfl) (by kernel_rfl) (by kernel_rfl) (fun _ _ _ h => h) (Or.inl ⟨by rfl, ?hbq9⟩) (by assumption) ?rbq9
      case hbq9 => (intro wq hSw; have e := (hSw.cell (p := ⟨W.heap.size, 2, none⟩) hbl).trans b2; go_simp; (try with_reducible rfl))
      try simp only [Act.put, List.getElem_toArray, List.getElem_cons_zero, List.getElem_cons_succ, List.setIfInBounds_toArray, List.set_cons_zero, List.set_cons_succ]
      refine wpAnyH_ready (rs := [0]) (by kernel_rfl) (by simp) ?_
      refine AllReadyH.cons (o := _) rfl (fun K hK => ?_) AllReadyH.nil
      go_simp
      refine (new_any _).mono ?_
      rintro e w1 ⟨rfl, rfl⟩
      have HP0 := hide (PkB.start hHeld)
      generalize wd.alloc (.cells #[.slice none 0 0, .int .i64 0] 136) = wp at *
      generalize wd.heap.size = bp at *
      refine hK.out _ _ (HP0.out.bel) (fun hHeld => ?_)
      clear hK K 
      try simp only [Act.put, List.getElem_toArray, List.getElem_cons_zero, List.getElem_cons_succ, List.setIfInBounds_toArray, List.set_cons_zero, List.set_cons_succ]
      refine wpAnyH_ready (rs := [3]) (by kernel_rfl) (by simp) ?_
      refine AllReadyH.cons (o := _) rfl (fun K hK => ?_) AllReadyH.nil
      go_simp
      refine (HP0.out.put 8 seq (by simp) (by omega) HS.out.1 HS.out.2).mono ?_
      rintro e w2 ⟨v2, rfl, hp⟩
      have HP1 := hide hp
      clear hp
      refine hK.out _ _ (HP1.out.bel) (fun hHeld => ?_)
      clear hK K 
      try simp only [Act.put, List.getElem_toArray, List.getElem_cons_zero, List.getElem_cons_succ, List.setIfInBounds_toArray, List.set_cons_zero, List.set_cons_succ]
      refine wpAnyH_ready (rs := [5]) (by kernel_rfl) (by simp) ?_
      refine AllReadyH.cons (o := _) rfl (fun K hK => ?_) AllReadyH.nil
      go_simp
      refine (HP1.out.put 1 2 (by simp [Pl.be_len]) (by omega) (by omega) (by omega)).mono ?_
      rintro e w3 ⟨v3, rfl, hp⟩
      have HP2 := hide hp
      clear hp
      refine hK.out _ _ (HP2.out.bel) (fun hHeld => ?_)
      clear hK K 
      try simp only [Act.put, List.getElem_toArray, List.getElem_cons_zero, List.getElem_cons_succ, List.setIfInBounds_toArray, List.set_cons_zero, List.set_cons_succ]
      refine wpAnyH_ready (rs := [10]) (by kernel_rfl) (by simp) ?_
      refine AllReadyH.cons (o := _) rfl (fun K hK => ?_) AllReadyH.nil
      go_simp
      refine (HP2.out.put 2 text.size (by simp [Pl.be_len]) (by omega) (by omega) (by omega)).mono ?_
      rintro e w4 ⟨v4, rfl, hp⟩
      have HP3 := hide hp
      clear hp
      refine hK.out _ _ (HP3.out.bel) (fun hHeld => ?_)
      clear hK K 
      try simp only [Act.put, List.getElem_toArray, List.getElem_cons_zero, List.getElem_cons_succ, List.setIfInBounds_toArray, List.set_cons_zero, List.set_cons_succ]
      refine wpAnyH_ready (rs := [13]) (by kernel_rfl) (by simp) ?_
      refine AllReadyH.cons (o := _) rfl (fun K hK => ?_) AllReadyH.nil
      go_simp
      refine (HP3.out.text text (by simp [Pl.be_len]; omega)).mono ?_
      rintro e w5 ⟨v5, rfl, hp⟩
      have HP4 := hide hp
      clear hp
      refine hK.out _ _ (HP4.out.bel) (fun hHeld => ?_)
      clear hK K 
      try simp only [Act.put, List.getElem_toArray, List.getElem_cons_zero, List.getElem_cons_succ, List.setIfInBounds_toArray, List.set_cons_zero, List.set_cons_succ]
      refine wpAnyH_take (i := 14) (v := ?vbq10) rfl (by kernel_rfl) (by kernel_rfl) (by kernel_rfl) (fun _ _ _ h => h) (Or.inl ⟨by rfl, ?hbq10⟩) (by assumption) ?rbq10
      case hbq10 => (intro wq hSw; go_simp; (try with_reducible rfl))
      try simp only [Act.put, List.getElem_toArray, List.getElem_cons_zero, List.getElem_cons_succ, List.setIfInBounds_toArray, List.set_cons_zero, List.set_cons_succ]
      refine wpAnyH_done (by kernel_rfl) ?_ _
      go_wp2_with fail
      go_meet
      exact ⟨_, _, rfl, HP4.out⟩
    case rest =>
      obtain ⟨bp, v, rfl, hp⟩ := hcut
      have HP := hide hp
      have c3 := (hp.bel.cell (p := ⟨W.heap.size, 2, none⟩) hbl).trans b2
      clear hp b0 b1 b2
      have hx4 : (497 : Int) - (text.size : Int) = ((497 - text.size : Nat) : Int) := by omega
      go_wp2_with fail
      refine (repeat_any (497 - text.size) wc (by omega)).mono ?_
      rintro e w1 ⟨rfl, hb⟩
      have HP1 := hide (HP.out.next hb)
      clear hb c3 HP
      go_wp2_with fail
      refine (HP1.out.text (zerosT (497 - text.size)) (by rw [zerosT_size]; simp [Pl.be_len, bs_len]; omega)).mono ?_
      rintro e w2 ⟨v2, rfl, hp⟩
      rw [zerosT_bs] at hp
      have HP2 := hide (show PkB wb w2 bp v2 (sheetA seq true text) from hp)
      clear hp HP1
      have HL := hide (sheetA_len seq true text (by omega))
      have HBy := hide (sheetA_byt seq true text)
      have HE := hide (show sheetA seq true text ++ Pl.be 4 (rev32 (crc (sheetA seq true text))) = sheetB seq true text from rfl)
      have HCr := hide (rev_bound (crc (sheetA seq true text)))
      have HLB := hide (sheetB_len seq true text (by omega))
      generalize sheetA seq true text = hA at *
      generalize hhB : sheetB seq true text = hB at HE HLB
      have HhB := hide hhB
      clear hhB
      go_wp2_with fail
      refine (HP2.out.bytes (by rw [HL.out]; decide)).mono ?_
      rintro e w3 ⟨A3, k3, rfl, hp, ho⟩
      have HP3 := hide hp
      have HM3 := hide (owns_mem ho)
      have HT3 := hide (HTab.out.below (HB0.out.trans (hp.bel.mono HB0.out.size)))
      clear hp ho HP2
      go_wp2_with fail
      refine (sum_any A3 hA k3 _ w3 HM3.out HBy.out (by rw [HL.out]; decide) HT3.out).mono ?_
      rintro e w4 ⟨rfl, rfl⟩
      generalize crc hA = cr0 at *
      go_wp2_with fail
      refine (rev_any cr0 w3).mono ?_
      rintro e w4 ⟨rfl, rfl⟩
      have hw4 : IntKind.u64.wrap (rev32 cr0) = rev32 cr0 := by rw [IntKind.wrap_u64]; have := HCr.out; omega
      generalize rev32 cr0 = cr at *
      go_wp2_with fail
      refine (HP3.out.put 4 cr (by rw [HL.out]; decide) (by omega) HCr.out.1 (by have := HCr.out.2; omega)).mono ?_
      rintro e w5 ⟨v5, rfl, hp⟩
      rw [HE.out] at hp
      have HP5 := hide hp
      clear hp HP3
      go_wp2_with fail
      refine (HP5.out.bytes (by rw [HLB.out]; decide)).mono ?_
      rintro e w6 ⟨A6, k6, rfl, hp, ho⟩
      rw [HLB.out] at ho ⊢
      have HP6 := hide hp
      have HO6 := hide (owns_base ho fun g hg => Nat.le_trans HB0.out.size (ho.lt g hg).1)
      have HB6 := hide (HB0.out.trans (hp.bel.mono HB0.out.size))
      clear hp ho
      go_wp2_with fail
      go_ret2
      exact ⟨A6, k6, rfl, by rw [HhB.out]; exact HO6.out, HB6.out⟩
end Go.Proofs.YtccnihdkjcjeoaaGreatDoor
