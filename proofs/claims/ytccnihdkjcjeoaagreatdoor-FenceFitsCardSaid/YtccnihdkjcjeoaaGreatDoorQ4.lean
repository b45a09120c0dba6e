/- Walk of (*wal.Log).does, Trim. The sheets of a log as a function; wal.texts in general. wal.next's number; walk of wal.Open, whatever sheets there are. -/
import Derived.Test.YtccnihdkjcjeoaaGreatDoorQ3
import Derived.WalkMore
import Derived.Shelf.Strings.BuilderK
namespace Go.Proofs.YtccnihdkjcjeoaaGreatDoor
open Go.RowKit Go.Shelf

/-- a log and its disk -/
structure LD (W : World) (bl bd n : Nat) (F : Nat → Prop) (c : Nat → List Int) (m : Nat) (h : Hd) (at_ next used : Int) : Prop where
  lg : Lg W bl bd h at_ next used
  ds : Ds W bd n F c m
  ne : ¬ F bl
def lF (bl : Nat) (F : Nat → Prop) (k : Nat) : Prop := k = bl ∨ F k
def LDRes (bl bd n : Nat) (F : Nat → Prop) (c : Nat → List Int) (m : Nat) (h : Hd) (at_ next used : Int) (W : World) (e : Ending) (W' : World) : Prop :=
  e = .returned (.int .i64 0) ∧ ∃ F', LD W' bl bd n F' c m h at_ next used ∧ Kp (lF bl F) W W' ∧ ∀ k, F' k → F k ∨ W.heap.size ≤ k
section
variable {W W' : World} {bl bd n : Nat} {F : Nat → Prop} {c : Nat → List Int} {m : Nat} {h : Hd} {at_ next used : Int}
theorem LD.below (hl : LD W bl bd n F c m h at_ next used) (hb : Below W.heap.size W W') : LD W' bl bd n F c m h at_ next used := ⟨hl.lg.below hb, hl.ds.below hb, hl.ne⟩
theorem LD.lt (hl : LD W bl bd n F c m h at_ next used) : bl < W.heap.size := hl.lg.whole.lt
theorem LDRes.from_ {W1 : World} {e : Ending} (hb : Below W.heap.size W W1) (hr : LDRes bl bd n F c m h at_ next used W1 e W') : LDRes bl bd n F c m h at_ next used W e W' := by
  obtain ⟨he, F', h1, h2, h3⟩ := hr
  exact ⟨he, F', h1, (Kp.of_below hb).same h2, fun k hk => (h3 k hk).imp id (fun h => Nat.le_trans hb.size h)⟩
end
set_option maxHeartbeats 1000000 in
/-- does, where the deed answers that all is well -/
theorem does_any {bl bd n : Nat} {F : Nat → Prop} {c : Nat → List Int} {m : Nat} {h : Hd} {at_ next used : Int} {c' : Nat → List Int} {m' : Nat} {h' : Hd} {at' next' used' : Int} (f : FuncId) (cap : Array Value) (W : World)
    (hl : LD W bl bd n F c m h at_ next used) (ef : ∀ args w, (callFunc f args).run Tryz.prog w = .ok (.enter f args) w) (hc : Calls Tryz.prog f cap W (LDRes bl bd n F c' m' h' at' next' used' W)) :
    Calls Tryz.prog 98 #[.pointer (some ⟨bl, 0, none⟩), .func (.func f) #[] cap] W (LDRes bl bd n F c' m' h' at' next' used' W) := by
  have c8 : W.cell? ⟨bl, 8, none⟩ = some (.bool false) := hl.lg.whole.cell 8
  have HC := hide hc
  clear hl hc
  go_enter Tryz.func98, Tryz.ntmps98
  go_wp2_with fail
  refine HC.out.mono ?_
  rintro e w1 ⟨rfl, F', h1, h2, h3⟩
  have HL := hide h1
  have HK := hide h2
  have HF := hide h3
  clear h1 h2 h3 c8
  have y8 : w1.cell? ⟨bl, 8, none⟩ = some (.bool false) := HL.out.lg.whole.cell 8
  have x8 := HL.out.lg.whole.frozen 8
  go_upto_region 5 with fail
  have hw := HL.out.lg.whole.set_ 8 (.bool false)
  have hk2 : Kp (OnlyF bl) w1 (w1.setCell ⟨bl, 8, none⟩ (.bool false)) := Kp.set_only _ _ _ _
  have HL2 := hide (show LD (w1.setCell ⟨bl, 8, none⟩ (.bool false)) bl bd n F' c' m' h' at' next' used' from ⟨hw, HL.out.ds.kp hk2 (fun k hf hg => HL.out.ne (by cases hg; exact hf)), HL.out.ne⟩)
  have HK2 := hide (show Kp (lF bl F) W (w1.setCell ⟨bl, 8, none⟩ (.bool false)) from HK.out.setCell (.inl (.inl rfl)) _)
  generalize w1.setCell ⟨bl, 8, none⟩ (.bool false) = w2 at *
  clear hw hk2 y8 x8
  go_wp2_with fail
  go_ret
  exact ⟨rfl, F', HL2.out, HK2.out, HF.out⟩
theorem other2_any (ia : Nat) (hi : ia ≤ 1) (w : World) : Calls Tryz.prog 93 #[.int .i64 (ia : Int)] w fun e w' => e = .returned (.int .i64 ((1 - ia : Nat) : Int)) ∧ w = w' := by
  refine (other_any (ia : Int) w (by omega) (by omega)).mono fun e w' hh => ⟨?_, hh.2⟩
  rw [hh.1]
  have : ia = 0 ∨ ia = 1 := by omega
  rcases this with rfl | rfl <;> rfl
def trimHd (h : Hd) (next : Int) : Hd := ⟨h.gen + 1, next, h.sec, h.note⟩
set_option maxHeartbeats 4000000 in
set_option maxRecDepth 20000 in
theorem trimFn_any (bl bd n : Nat) (F : Nat → Prop) (c : Nat → List Int) (m : Nat) (h : Hd) (ia : Nat) (next used : Int) (bb : Nat) (W : World) (hl : LD W bl bd n F c m h ia next used) (hbb : W.cell? ⟨bb, 0, none⟩ = some (.pointer (some ⟨bl, 0, none⟩))) (hnb : ¬ F bb) (hbl : bb ≠ bl)
    (hm : m + 1 ≤ 100000) (hg : h.good) (hg1 : h.gen < 4294967296) (hi : ia ≤ 1) (hnx : 0 ≤ next ∧ next < 18446744073709551616) (hn : 2 ≤ n) (ht : Tab W) :
    Calls Tryz.prog 99 #[.pointer (some ⟨bb, 0, none⟩)] W (LDRes bl bd n F (upd c (1 - ia) (trimHd h next).bytes) 0 (trimHd h next) ((1 - ia : Nat) : Int) next 0 W) := by
  have HL := hide hl
  have HT := hide ht
  have hbb0 := World.block_lt_of_cell? W _ (by rw [hbb])
  have hll := hl.lt
  have HGd := hide (show (trimHd h next).good from ⟨by have := hg.1; show 0 ≤ h.gen + 1 ∧ h.gen + 1 < _; omega, hnx, hg.2.2⟩)
  have hgw : IntKind.u64.wrap (h.gen + 1) = h.gen + 1 := by
    have := hg.1
    rw [IntKind.wrap_u64]
    omega
  have HGw := hide hgw
  have HOth := fun w' => hide (other2_any ia hi w')
  have HWr := fun W' (hd : Ds W' bd n F c m) (ht : Tab W') => hide (walwrite_any bd n F c m (1 - ia) (trimHd h next) W' hd hm (by omega) HGd.out ht)
  clear hl ht hg hg1 hnx
  go_enter Tryz.func99, Tryz.ntmps99
  go_upto_region 1 with fail
  refine wp_region_held_drew (S := (fun w' => Below W.heap.size W w')) (by kernel_rfl) ((Below.refl _ _).drew) (fun hHeld => ?_)
  generalize W.drew = wd at *
  refine wpAnyH_take (i := 0) (v := ?vaq1) rfl (by kernel_rfl) (by kernel_rfl) (by kernel_rfl) (fun _ _ _ h => h) (Or.inl ⟨by rfl, ?haq1⟩) (by assumption) ?raq1
  case haq1 => (intro wq hSw; have hX := (HL.out.below hSw).lg.whole; have hB := (hSw.cell (p := ⟨bb, 0, none⟩) hbb0).trans hbb; have e0 := hX.cell 0; have e1 := hX.cell 1; have e2 := hX.cell 2; have e3 := hX.cell 3; have e4 := hX.cell 4; have e5 := hX.cell 5; have e6 := hX.cell 6; simp only [List.getElem?_cons_zero, List.getElem?_cons_succ] at e0 e1 e2 e3 e4 e5 e6; go_simp; (try with_reducible rfl))
  try simp only [Act.put, List.getElem_toArray, List.getElem_cons_zero, List.setIfInBounds_toArray, List.set_cons_zero, List.set_cons_succ]
  refine wpAnyH_take (i := 1) (v := ?vaq2) rfl (by kernel_rfl) (by kernel_rfl) (by kernel_rfl) (fun _ _ _ h => h) (Or.inl ⟨by rfl, ?haq2⟩) (by assumption) ?raq2
  case haq2 => (intro wq hSw; go_simp; (try with_reducible rfl))
  try simp only [Act.put, List.getElem_toArray, List.getElem_cons_zero, List.getElem_cons_succ, List.setIfInBounds_toArray, List.set_cons_zero, List.set_cons_succ]
  refine wpAnyH_take (i := 2) (v := ?vaq3) rfl (by kernel_rfl) (by kernel_rfl) (by kernel_rfl) (fun _ _ _ h => h) (Or.inl ⟨by rfl, ?haq3⟩) (by assumption) ?raq3
  case haq3 => (intro wq hSw; go_simp; (try with_reducible rfl))
  try simp only [Act.put, List.getElem_toArray, List.getElem_cons_zero, List.getElem_cons_succ, List.setIfInBounds_toArray, List.set_cons_zero, List.set_cons_succ]
  refine wpAnyH_take (i := 3) (v := ?vaq4) rfl (by kernel_rfl) (by kernel_rfl) (by kernel_rfl) (fun _ _ _ h => h) (Or.inl ⟨by rfl, ?haq4⟩) (by assumption) ?raq4
  case haq4 => (intro wq hSw; go_simp; (try with_reducible rfl))
  try simp only [Act.put, List.getElem_toArray, List.getElem_cons_zero, List.getElem_cons_succ, List.setIfInBounds_toArray, List.set_cons_zero, List.set_cons_succ]
  refine wpAnyH_take (i := 4) (v := ?vaq5) rfl (by kernel_rfl) (by kernel_rfl) (by kernel_rfl) (fun _ _ _ h => h) (Or.inl ⟨by rfl, ?haq5⟩) (by assumption) ?raq5
  case haq5 => (intro wq hSw; have hX := (HL.out.below hSw).lg.whole; have hB := (hSw.cell (p := ⟨bb, 0, none⟩) hbb0).trans hbb; have e0 := hX.cell 0; have e1 := hX.cell 1; have e2 := hX.cell 2; have e3 := hX.cell 3; have e4 := hX.cell 4; have e5 := hX.cell 5; have e6 := hX.cell 6; simp only [List.getElem?_cons_zero, List.getElem?_cons_succ] at e0 e1 e2 e3 e4 e5 e6; go_simp; (try with_reducible rfl))
  try simp only [Act.put, List.getElem_toArray, List.getElem_cons_zero, List.getElem_cons_succ, List.setIfInBounds_toArray, List.set_cons_zero, List.set_cons_succ]
  refine wpAnyH_take (i := 5) (v := .int .u64 (h.gen + 1)) rfl (by kernel_rfl) (by kernel_rfl) (by kernel_rfl) (fun _ _ _ h => h) (Or.inl ⟨by rfl, ?haq6⟩) (by assumption) ?raq6
  case haq6 => (intro wq hSw; have hgw := HGw.out; go_simp; (try with_reducible rfl))
  try simp only [Act.put, List.getElem_toArray, List.getElem_cons_zero, List.getElem_cons_succ, List.setIfInBounds_toArray, List.set_cons_zero, List.set_cons_succ]
  refine wpAnyH_take (i := 6) (v := ?vaq7) rfl (by kernel_rfl) (by kernel_rfl) (by kernel_rfl) (fun _ _ _ h => h) (Or.inl ⟨by rfl, ?haq7⟩) (by assumption) ?raq7
  case haq7 => (intro wq hSw; have hX := (HL.out.below hSw).lg.whole; have hB := (hSw.cell (p := ⟨bb, 0, none⟩) hbb0).trans hbb; have e0 := hX.cell 0; have e1 := hX.cell 1; have e2 := hX.cell 2; have e3 := hX.cell 3; have e4 := hX.cell 4; have e5 := hX.cell 5; have e6 := hX.cell 6; simp only [List.getElem?_cons_zero, List.getElem?_cons_succ] at e0 e1 e2 e3 e4 e5 e6; go_simp; (try with_reducible rfl))
  try simp only [Act.put, List.getElem_toArray, List.getElem_cons_zero, List.getElem_cons_succ, List.setIfInBounds_toArray, List.set_cons_zero, List.set_cons_succ]
  refine wpAnyH_take (i := 7) (v := ?vaq8) rfl (by kernel_rfl) (by kernel_rfl) (by kernel_rfl) (fun _ _ _ h => h) (Or.inl ⟨by rfl, ?haq8⟩) (by assumption) ?raq8
  case haq8 => (intro wq hSw; go_simp; (try with_reducible rfl))
  try simp only [Act.put, List.getElem_toArray, List.getElem_cons_zero, List.getElem_cons_succ, List.setIfInBounds_toArray, List.set_cons_zero, List.set_cons_succ]
  refine wpAnyH_take (i := 8) (v := ?vaq9) rfl (by kernel_rfl) (by kernel_rfl) (by kernel_rfl) (fun _ _ _ h => h) (Or.inl ⟨by rfl, ?haq9⟩) (by assumption) ?raq9
  case haq9 => (intro wq hSw; go_simp; (try with_reducible rfl))
  try simp only [Act.put, List.getElem_toArray, List.getElem_cons_zero, List.getElem_cons_succ, List.setIfInBounds_toArray, List.set_cons_zero, List.set_cons_succ]
  refine wpAnyH_take (i := 9) (v := ?vaq10) rfl (by kernel_rfl) (by kernel_rfl) (by kernel_rfl) (fun _ _ _ h => h) (Or.inl ⟨by rfl, ?haq10⟩) (by assumption) ?raq10
  case haq10 => (intro wq hSw; have hX := (HL.out.below hSw).lg.whole; have hB := (hSw.cell (p := ⟨bb, 0, none⟩) hbb0).trans hbb; have e0 := hX.cell 0; have e1 := hX.cell 1; have e2 := hX.cell 2; have e3 := hX.cell 3; have e4 := hX.cell 4; have e5 := hX.cell 5; have e6 := hX.cell 6; simp only [List.getElem?_cons_zero, List.getElem?_cons_succ] at e0 e1 e2 e3 e4 e5 e6; go_simp; (try with_reducible rfl))
  try simp only [Act.put, List.getElem_toArray, List.getElem_cons_zero, List.getElem_cons_succ, List.setIfInBounds_toArray, List.set_cons_zero, List.set_cons_succ]
  refine wpAnyH_take (i := 10) (v := ?vaq11) rfl (by kernel_rfl) (by kernel_rfl) (by kernel_rfl) (fun _ _ _ h => h) (Or.inl ⟨by rfl, ?haq11⟩) (by assumption) ?raq11
  case haq11 => (intro wq hSw; have hX := (HL.out.below hSw).lg.whole; have hB := (hSw.cell (p := ⟨bb, 0, none⟩) hbb0).trans hbb; have e0 := hX.cell 0; have e1 := hX.cell 1; have e2 := hX.cell 2; have e3 := hX.cell 3; have e4 := hX.cell 4; have e5 := hX.cell 5; have e6 := hX.cell 6; simp only [List.getElem?_cons_zero, List.getElem?_cons_succ] at e0 e1 e2 e3 e4 e5 e6; go_simp; (try with_reducible rfl))
  try simp only [Act.put, List.getElem_toArray, List.getElem_cons_zero, List.getElem_cons_succ, List.setIfInBounds_toArray, List.set_cons_zero, List.set_cons_succ]
  refine wpAnyH_take (i := 11) (v := ?vaq12) rfl (by kernel_rfl) (by kernel_rfl) (by kernel_rfl) (fun _ _ _ h => h) (Or.inl ⟨by rfl, ?haq12⟩) (by assumption) ?raq12
  case haq12 => (intro wq hSw; go_simp; (try with_reducible rfl))
  try simp only [Act.put, List.getElem_toArray, List.getElem_cons_zero, List.getElem_cons_succ, List.setIfInBounds_toArray, List.set_cons_zero, List.set_cons_succ]
  refine wpAnyH_take (i := 12) (v := ?vaq13) rfl (by kernel_rfl) (by kernel_rfl) (by kernel_rfl) (fun _ _ _ h => h) (Or.inl ⟨by rfl, ?haq13⟩) (by assumption) ?raq13
  case haq13 => (intro wq hSw; go_simp; (try with_reducible rfl))
  try simp only [Act.put, List.getElem_toArray, List.getElem_cons_zero, List.getElem_cons_succ, List.setIfInBounds_toArray, List.set_cons_zero, List.set_cons_succ]
  refine wpAnyH_take (i := 13) (v := ?vaq14) rfl (by kernel_rfl) (by kernel_rfl) (by kernel_rfl) (fun _ _ _ h => h) (Or.inl ⟨by rfl, ?haq14⟩) (by assumption) ?raq14
  case haq14 => (intro wq hSw; go_simp; (try with_reducible rfl))
  try simp only [Act.put, List.getElem_toArray, List.getElem_cons_zero, List.getElem_cons_succ, List.setIfInBounds_toArray, List.set_cons_zero, List.set_cons_succ]
  refine wpAnyH_take (i := 14) (v := ?vaq15) rfl (by kernel_rfl) (by kernel_rfl) (by kernel_rfl) (fun _ _ _ h => h) (Or.inl ⟨by rfl, ?haq15⟩) (by assumption) ?raq15
  case haq15 => (intro wq hSw; have hX := (HL.out.below hSw).lg.whole; have hB := (hSw.cell (p := ⟨bb, 0, none⟩) hbb0).trans hbb; have e0 := hX.cell 0; have e1 := hX.cell 1; have e2 := hX.cell 2; have e3 := hX.cell 3; have e4 := hX.cell 4; have e5 := hX.cell 5; have e6 := hX.cell 6; simp only [List.getElem?_cons_zero, List.getElem?_cons_succ] at e0 e1 e2 e3 e4 e5 e6; go_simp; (try with_reducible rfl))
  try simp only [Act.put, List.getElem_toArray, List.getElem_cons_zero, List.getElem_cons_succ, List.setIfInBounds_toArray, List.set_cons_zero, List.set_cons_succ]
  refine wpAnyH_take (i := 15) (v := ?vaq16) rfl (by kernel_rfl) (by kernel_rfl) (by kernel_rfl) (fun _ _ _ h => h) (Or.inl ⟨by rfl, ?haq16⟩) (by assumption) ?raq16
  case haq16 => (intro wq hSw; have hX := (HL.out.below hSw).lg.whole; have hB := (hSw.cell (p := ⟨bb, 0, none⟩) hbb0).trans hbb; have e0 := hX.cell 0; have e1 := hX.cell 1; have e2 := hX.cell 2; have e3 := hX.cell 3; have e4 := hX.cell 4; have e5 := hX.cell 5; have e6 := hX.cell 6; simp only [List.getElem?_cons_zero, List.getElem?_cons_succ] at e0 e1 e2 e3 e4 e5 e6; go_simp; (try with_reducible rfl))
  try simp only [Act.put, List.getElem_toArray, List.getElem_cons_zero, List.getElem_cons_succ, List.setIfInBounds_toArray, List.set_cons_zero, List.set_cons_succ]
  refine wpAnyH_take (i := 16) (v := ?vaq17) rfl (by kernel_rfl) (by kernel_rfl) (by kernel_rfl) (fun _ _ _ h => h) (Or.inl ⟨by rfl, ?haq17⟩) (by assumption) ?raq17
  case haq17 => (intro wq hSw; go_simp; (try with_reducible rfl))
  try simp only [Act.put, List.getElem_toArray, List.getElem_cons_zero, List.getElem_cons_succ, List.setIfInBounds_toArray, List.set_cons_zero, List.set_cons_succ]
  refine wpAnyH_take (i := 17) (v := ?vaq18) rfl (by kernel_rfl) (by kernel_rfl) (by kernel_rfl) (fun _ _ _ h => h) (Or.inl ⟨by rfl, ?haq18⟩) (by assumption) ?raq18
  case haq18 => (intro wq hSw; go_simp; (try with_reducible rfl))
  try simp only [Act.put, List.getElem_toArray, List.getElem_cons_zero, List.getElem_cons_succ, List.setIfInBounds_toArray, List.set_cons_zero, List.set_cons_succ]
  refine wpAnyH_take (i := 18) (v := ?vaq19) rfl (by kernel_rfl) (by kernel_rfl) (by kernel_rfl) (fun _ _ _ h => h) (Or.inl ⟨by rfl, ?haq19⟩) (by assumption) ?raq19
  case haq19 => (intro wq hSw; go_simp; (try with_reducible rfl))
  try simp only [Act.put, List.getElem_toArray, List.getElem_cons_zero, List.getElem_cons_succ, List.setIfInBounds_toArray, List.set_cons_zero, List.set_cons_succ]
  refine wpAnyH_take (i := 19) (v := ?vaq20) rfl (by kernel_rfl) (by kernel_rfl) (by kernel_rfl) (fun _ _ _ h => h) (Or.inl ⟨by rfl, ?haq20⟩) (by assumption) ?raq20
  case haq20 => (intro wq hSw; have hX := (HL.out.below hSw).lg.whole; have hB := (hSw.cell (p := ⟨bb, 0, none⟩) hbb0).trans hbb; have e0 := hX.cell 0; have e1 := hX.cell 1; have e2 := hX.cell 2; have e3 := hX.cell 3; have e4 := hX.cell 4; have e5 := hX.cell 5; have e6 := hX.cell 6; simp only [List.getElem?_cons_zero, List.getElem?_cons_succ] at e0 e1 e2 e3 e4 e5 e6; go_simp; (try with_reducible rfl))
  try simp only [Act.put, List.getElem_toArray, List.getElem_cons_zero, List.getElem_cons_succ, List.setIfInBounds_toArray, List.set_cons_zero, List.set_cons_succ]
  refine wpAnyH_take (i := 20) (v := ?vaq21) rfl (by kernel_rfl) (by kernel_rfl) (by kernel_rfl) (fun _ _ _ h => h) (Or.inl ⟨by rfl, ?haq21⟩) (by assumption) ?raq21
  case haq21 => (intro wq hSw; go_simp; (try with_reducible rfl))
  try simp only [Act.put, List.getElem_toArray, List.getElem_cons_zero, List.getElem_cons_succ, List.setIfInBounds_toArray, List.set_cons_zero, List.set_cons_succ]
  refine wpAnyH_ready (rs := [21]) (by kernel_rfl) (by simp) ?_
  refine AllReadyH.cons (o := _) rfl (fun K hK => ?_) ?_
  · skip
    go_simp
    have hx := Whole.new wd hd0.cells 66
    have hb := (Below.refl wd.heap.size wd).alloc (Nat.le_refl _) (.cells hd0.cells.toArray 66)
    change Whole (wd.alloc (.cells hd0.cells.toArray 66)) _ _ _ at hx
    have HX := hide hx
    have hH := hHeld.trans (hb.mono hHeld.size)
    have hsz := hHeld.size
    refine hK.out _ _ (hH) (fun hHeld => ?_)
    clear hK K hx hb
    try simp only [Act.put, List.getElem_toArray, List.getElem_cons_zero, List.getElem_cons_succ, List.setIfInBounds_toArray, List.set_cons_zero, List.set_cons_succ]
    change wpAnyH _ _ _ _ _ _ _ _ (wd.alloc (.cells hd0.cells.toArray 66))
    replace hHeld : Below W.heap.size W (wd.alloc (.cells hd0.cells.toArray 66)) := hHeld
    clear hH
    generalize wd.alloc (.cells hd0.cells.toArray 66) = wa at *
    generalize wd.heap.size = bh at *
    refine wpAnyH_ready (rs := [22]) (by kernel_rfl) (by simp) ?_
    refine AllReadyH.cons (o := _) rfl (fun K hK => ?_) ?_
    · skip
      have y0 : wa.cell? ⟨bh, 0, none⟩ = some (.int .u64 0) := HX.out.cell 0
      have x0 := HX.out.frozen 0
      have y1 : wa.cell? ⟨bh, 1, none⟩ = some (.int .u64 0) := HX.out.cell 1
      have x1 := HX.out.frozen 1
      have y2 : wa.cell? ⟨bh, 2, none⟩ = some (.int .i64 0) := HX.out.cell 2
      have x2 := HX.out.frozen 2
      have y3 : wa.cell? ⟨bh, 3, none⟩ = some (.string ⟨#[]⟩) := HX.out.cell 3
      have x3 := HX.out.frozen 3
      go_simp
      have h1 := ((((HX.out).set_ 0 (.int .u64 (h.gen + 1))).set_ 1 (.int .u64 next)).set_ 2 (.int .i64 (h.sec : Int))).set_ 3 (.string h.note)
      have hH := ((((hHeld).setCell (p := ⟨bh, 0, none⟩) hsz (.int .u64 (h.gen + 1))).setCell (p := ⟨bh, 1, none⟩) hsz (.int .u64 next)).setCell (p := ⟨bh, 2, none⟩) hsz (.int .i64 (h.sec : Int))).setCell (p := ⟨bh, 3, none⟩) hsz (.string h.note)
      generalize ((((wa).setCell ⟨bh, 0, none⟩ (.int .u64 (h.gen + 1))).setCell ⟨bh, 1, none⟩ (.int .u64 next)).setCell ⟨bh, 2, none⟩ (.int .i64 (h.sec : Int))).setCell ⟨bh, 3, none⟩ (.string h.note) = wf at *
      refine hK.out _ _ (hH) (fun hHeld => ?_)
      clear hK K y0 x0 y1 x1 y2 x2 y3 x3
      try simp only [Act.put, List.getElem_toArray, List.getElem_cons_zero, List.getElem_cons_succ, List.setIfInBounds_toArray, List.set_cons_zero, List.set_cons_succ]
      refine wpAnyH_done (by kernel_rfl) ?_ _
      change Whole wf bh _ (trimHd h next).cells at h1
      have HX1 := hide h1
      have HL1 := hide (HL.out.below hHeld)
      have HB1 := hide hHeld
      have hbb1 : wf.cell? ⟨bb, 0, none⟩ = _ := (hHeld.cell (p := ⟨bb, 0, none⟩) hbb0).trans hbb
      have hbbl : bb < wf.heap.size := Nat.lt_of_lt_of_le hbb0 hHeld.size
      have HK1 := hide (Kp.of_below (F := lF bl F) hHeld)
      have hnh : ¬ F bh := fun hf => by have := HL.out.ds.lt hf; omega
      clear h1 HX hHeld hbb hH
      go_upto_region 2 with fail
      refine wp_region_held_drew (S := (fun w' => Kp F wf w')) (by kernel_rfl) ((Kp.refl _ _).drew) (fun hHeld => ?_)
      have HLd := hide (HL1.out.below (Below.refl wf.heap.size wf).drew)
      have HBd := hide (HB1.out.drew)
      generalize wf.drew = wd at *
      refine wpAnyH_take (i := 0) (v := ?vbq1) rfl (by kernel_rfl) (by kernel_rfl) (by kernel_rfl) (fun _ _ _ h => h) (Or.inl ⟨by rfl, ?hbq1⟩) (by assumption) ?rbq1
      case hbq1 => (intro wq hSw; have hX := HL1.out.lg.whole.kp hSw HL1.out.ne; have hB := (hSw.cell (p := ⟨bb, 0, none⟩) hbbl hnb).trans hbb1; have e0 := hX.cell 0; have e5 := hX.cell 5; have hY := HX1.out.kp hSw hnh; have z0 := hY.cell 0; have z1 := hY.cell 1; have z2 := hY.cell 2; have z3 := hY.cell 3; unfold trimHd Hd.cells at z0 z1 z2 z3; simp only [List.getElem?_cons_zero, List.getElem?_cons_succ] at e0 e5 z0 z1 z2 z3; go_simp; (try with_reducible rfl))
      try simp only [Act.put, List.getElem_toArray, List.getElem_cons_zero, List.setIfInBounds_toArray, List.set_cons_zero, List.set_cons_succ]
      refine wpAnyH_take (i := 1) (v := ?vbq2) rfl (by kernel_rfl) (by kernel_rfl) (by kernel_rfl) (fun _ _ _ h => h) (Or.inl ⟨by rfl, ?hbq2⟩) (by assumption) ?rbq2
      case hbq2 => (intro wq hSw; go_simp; (try with_reducible rfl))
      try simp only [Act.put, List.getElem_toArray, List.getElem_cons_zero, List.getElem_cons_succ, List.setIfInBounds_toArray, List.set_cons_zero, List.set_cons_succ]
      refine wpAnyH_take (i := 2) (v := ?vbq3) rfl (by kernel_rfl) (by kernel_rfl) (by kernel_rfl) (fun _ _ _ h => h) (Or.inl ⟨by rfl, ?hbq3⟩) (by assumption) ?rbq3
      case hbq3 => (intro wq hSw; go_simp; (try with_reducible rfl))
      try simp only [Act.put, List.getElem_toArray, List.getElem_cons_zero, List.getElem_cons_succ, List.setIfInBounds_toArray, List.set_cons_zero, List.set_cons_succ]
      refine wpAnyH_take (i := 3) (v := ?vbq4) rfl (by kernel_rfl) (by kernel_rfl) (by kernel_rfl) (fun _ _ _ h => h) (Or.inl ⟨by rfl, ?hbq4⟩) (by assumption) ?rbq4
      case hbq4 => (intro wq hSw; have hX := HL1.out.lg.whole.kp hSw HL1.out.ne; have hB := (hSw.cell (p := ⟨bb, 0, none⟩) hbbl hnb).trans hbb1; have e0 := hX.cell 0; have e5 := hX.cell 5; have hY := HX1.out.kp hSw hnh; have z0 := hY.cell 0; have z1 := hY.cell 1; have z2 := hY.cell 2; have z3 := hY.cell 3; unfold trimHd Hd.cells at z0 z1 z2 z3; simp only [List.getElem?_cons_zero, List.getElem?_cons_succ] at e0 e5 z0 z1 z2 z3; go_simp; (try with_reducible rfl))
      try simp only [Act.put, List.getElem_toArray, List.getElem_cons_zero, List.getElem_cons_succ, List.setIfInBounds_toArray, List.set_cons_zero, List.set_cons_succ]
      refine wpAnyH_take (i := 4) (v := ?vbq5) rfl (by kernel_rfl) (by kernel_rfl) (by kernel_rfl) (fun _ _ _ h => h) (Or.inl ⟨by rfl, ?hbq5⟩) (by assumption) ?rbq5
      case hbq5 => (intro wq hSw; have hX := HL1.out.lg.whole.kp hSw HL1.out.ne; have hB := (hSw.cell (p := ⟨bb, 0, none⟩) hbbl hnb).trans hbb1; have e0 := hX.cell 0; have e5 := hX.cell 5; have hY := HX1.out.kp hSw hnh; have z0 := hY.cell 0; have z1 := hY.cell 1; have z2 := hY.cell 2; have z3 := hY.cell 3; unfold trimHd Hd.cells at z0 z1 z2 z3; simp only [List.getElem?_cons_zero, List.getElem?_cons_succ] at e0 e5 z0 z1 z2 z3; go_simp; (try with_reducible rfl))
      try simp only [Act.put, List.getElem_toArray, List.getElem_cons_zero, List.getElem_cons_succ, List.setIfInBounds_toArray, List.set_cons_zero, List.set_cons_succ]
      refine wpAnyH_take (i := 5) (v := ?vbq6) rfl (by kernel_rfl) (by kernel_rfl) (by kernel_rfl) (fun _ _ _ h => h) (Or.inl ⟨by rfl, ?hbq6⟩) (by assumption) ?rbq6
      case hbq6 => (intro wq hSw; go_simp; (try with_reducible rfl))
      try simp only [Act.put, List.getElem_toArray, List.getElem_cons_zero, List.getElem_cons_succ, List.setIfInBounds_toArray, List.set_cons_zero, List.set_cons_succ]
      refine wpAnyH_take (i := 6) (v := ?vbq7) rfl (by kernel_rfl) (by kernel_rfl) (by kernel_rfl) (fun _ _ _ h => h) (Or.inl ⟨by rfl, ?hbq7⟩) (by assumption) ?rbq7
      case hbq7 => (intro wq hSw; go_simp; (try with_reducible rfl))
      try simp only [Act.put, List.getElem_toArray, List.getElem_cons_zero, List.getElem_cons_succ, List.setIfInBounds_toArray, List.set_cons_zero, List.set_cons_succ]
      refine wpAnyH_take (i := 7) (v := ?vbq8) rfl (by kernel_rfl) (by kernel_rfl) (by kernel_rfl) (fun _ _ _ h => h) (Or.inl ⟨by rfl, ?hbq8⟩) (by assumption) ?rbq8
      case hbq8 => (intro wq hSw; have hX := HL1.out.lg.whole.kp hSw HL1.out.ne; have hB := (hSw.cell (p := ⟨bb, 0, none⟩) hbbl hnb).trans hbb1; have e0 := hX.cell 0; have e5 := hX.cell 5; have hY := HX1.out.kp hSw hnh; have z0 := hY.cell 0; have z1 := hY.cell 1; have z2 := hY.cell 2; have z3 := hY.cell 3; unfold trimHd Hd.cells at z0 z1 z2 z3; simp only [List.getElem?_cons_zero, List.getElem?_cons_succ] at e0 e5 z0 z1 z2 z3; go_simp; (try with_reducible rfl))
      try simp only [Act.put, List.getElem_toArray, List.getElem_cons_zero, List.getElem_cons_succ, List.setIfInBounds_toArray, List.set_cons_zero, List.set_cons_succ]
      refine wpAnyH_take (i := 9) (v := ?vbq9) rfl (by kernel_rfl) (by kernel_rfl) (by kernel_rfl) (fun _ _ _ h => h) (Or.inl ⟨by rfl, ?hbq9⟩) (by assumption) ?rbq9
      case hbq9 => (intro wq hSw; have hX := HL1.out.lg.whole.kp hSw HL1.out.ne; have hB := (hSw.cell (p := ⟨bb, 0, none⟩) hbbl hnb).trans hbb1; have e0 := hX.cell 0; have e5 := hX.cell 5; have hY := HX1.out.kp hSw hnh; have z0 := hY.cell 0; have z1 := hY.cell 1; have z2 := hY.cell 2; have z3 := hY.cell 3; unfold trimHd Hd.cells at z0 z1 z2 z3; simp only [List.getElem?_cons_zero, List.getElem?_cons_succ] at e0 e5 z0 z1 z2 z3; go_simp; (try with_reducible rfl))
      try simp only [Act.put, List.getElem_toArray, List.getElem_cons_zero, List.getElem_cons_succ, List.setIfInBounds_toArray, List.set_cons_zero, List.set_cons_succ]
      refine wpAnyH_ready (rs := [8]) (by kernel_rfl) (by simp) ?_
      refine AllReadyH.cons (o := _) rfl (fun K hK => ?_) ?_
      · skip
        go_simp
        refine (HOth wd).out.mono ?_
        rintro e wo ⟨rfl, rfl⟩
        refine hK.out _ _ (hHeld) (fun hHeld => ?_)
        clear hK K 
        try simp only [Act.put, List.getElem_toArray, List.getElem_cons_zero, List.getElem_cons_succ, List.setIfInBounds_toArray, List.set_cons_zero, List.set_cons_succ]
        refine wpAnyH_ready (rs := [10]) (by kernel_rfl) (by simp) ?_
        refine AllReadyH.cons (o := _) rfl (fun K hK => ?_) ?_
        · skip
          go_simp
          refine (HWr wd HLd.out.ds (HT.out.below HBd.out)).out.mono ?_
          rintro e w3 ⟨rfl, F', g1, g2, g3⟩
          have HD3 := hide g1
          have HK3 := hide (hHeld.same g2)
          have HF3 := hide g3
          clear g1 g2 g3
          refine hK.out _ _ (HK3.out) (fun hHeld => ?_)
          clear hK K 
          try simp only [Act.put, List.getElem_toArray, List.getElem_cons_zero, List.getElem_cons_succ, List.setIfInBounds_toArray, List.set_cons_zero, List.set_cons_succ]
          refine wpAnyH_take (i := 11) (v := ?vbq10) rfl (by kernel_rfl) (by kernel_rfl) (by kernel_rfl) (fun _ _ _ h => h) (Or.inl ⟨by rfl, ?hbq10⟩) (by assumption) ?rbq10
          case hbq10 => (intro wq hSw; go_simp; (try with_reducible rfl))
          try simp only [Act.put, List.getElem_toArray, List.getElem_cons_zero, List.getElem_cons_succ, List.setIfInBounds_toArray, List.set_cons_zero, List.set_cons_succ]
          refine wpAnyH_done (by kernel_rfl) ?_ _
          have hsz3 : W.heap.size ≤ wf.heap.size := HB1.out.size
          have hszd := HBd.out.size
          have hbbW : bb < W.heap.size := hbb0
          have hbl3 : ¬ F' bl := fun hf => (HF3.out _ hf).elim HL1.out.ne (fun hge => by omega)
          have hbb3n : ¬ F' bb := fun hf => (HF3.out _ hf).elim hnb (fun hge => by omega)
          have hX3 := HL1.out.lg.whole.kp HK3.out HL1.out.ne
          have HX3 := hide hX3
          have HY3 := hide (HX1.out.kp HK3.out hnh)
          have hbb3 : w3.cell? ⟨bb, 0, none⟩ = _ := (HK3.out.cell (p := ⟨bb, 0, none⟩) hbbl hnb).trans hbb1
          have hb3l : bb < w3.heap.size := Nat.lt_of_lt_of_le hbbl HK3.out.size
          have hne3 : bh ≠ bl := by omega
          have HKW := hide (HK1.out.trans HK3.out (fun i hi => .inl (.inr hi)))
          have HFW := hide (show ∀ k, F' k → F k ∨ W.heap.size ≤ k from fun k hk => (HF3.out k hk).imp id (fun h => by omega))
          clear hX3 HX1 HL1 HK1 HK3 HF3 hHeld
          go_upto_region 5 with fail
          refine wp_region_held_drew (S := (fun w' => Kp (OnlyF bl) w3 w')) (by kernel_rfl) ((Kp.refl _ _).drew) (fun hHeld => ?_)
          have HXd := hide (HX3.out.kp (F := NoF) ((Kp.refl _ _).drew) (fun h => h.elim))
          generalize w3.drew = wd at *
          refine wpAnyH_take (i := 0) (v := ?vcq1) rfl (by kernel_rfl) (by kernel_rfl) (by kernel_rfl) (fun _ _ _ h => h) (Or.inl ⟨by rfl, ?hcq1⟩) (by assumption) ?rcq1
          case hcq1 => (intro wq hSw; have hB := (hSw.cell (p := ⟨bb, 0, none⟩) hb3l hbl).trans hbb3; have hY := HY3.out.kp hSw hne3; have z0 := hY.cell 0; have z1 := hY.cell 1; have z2 := hY.cell 2; have z3 := hY.cell 3; unfold trimHd Hd.cells at z0 z1 z2 z3; simp only [List.getElem?_cons_zero, List.getElem?_cons_succ] at z0 z1 z2 z3; go_simp; (try with_reducible rfl))
          try simp only [Act.put, List.getElem_toArray, List.getElem_cons_zero, List.setIfInBounds_toArray, List.set_cons_zero, List.set_cons_succ]
          refine wpAnyH_take (i := 1) (v := ?vcq2) rfl (by kernel_rfl) (by kernel_rfl) (by kernel_rfl) (fun _ _ _ h => h) (Or.inl ⟨by rfl, ?hcq2⟩) (by assumption) ?rcq2
          case hcq2 => (intro wq hSw; have hB := (hSw.cell (p := ⟨bb, 0, none⟩) hb3l hbl).trans hbb3; have hY := HY3.out.kp hSw hne3; have z0 := hY.cell 0; have z1 := hY.cell 1; have z2 := hY.cell 2; have z3 := hY.cell 3; unfold trimHd Hd.cells at z0 z1 z2 z3; simp only [List.getElem?_cons_zero, List.getElem?_cons_succ] at z0 z1 z2 z3; go_simp; (try with_reducible rfl))
          try simp only [Act.put, List.getElem_toArray, List.getElem_cons_zero, List.getElem_cons_succ, List.setIfInBounds_toArray, List.set_cons_zero, List.set_cons_succ]
          refine wpAnyH_take (i := 2) (v := ?vcq3) rfl (by kernel_rfl) (by kernel_rfl) (by kernel_rfl) (fun _ _ _ h => h) (Or.inl ⟨by rfl, ?hcq3⟩) (by assumption) ?rcq3
          case hcq3 => (intro wq hSw; have hB := (hSw.cell (p := ⟨bb, 0, none⟩) hb3l hbl).trans hbb3; have hY := HY3.out.kp hSw hne3; have z0 := hY.cell 0; have z1 := hY.cell 1; have z2 := hY.cell 2; have z3 := hY.cell 3; unfold trimHd Hd.cells at z0 z1 z2 z3; simp only [List.getElem?_cons_zero, List.getElem?_cons_succ] at z0 z1 z2 z3; go_simp; (try with_reducible rfl))
          try simp only [Act.put, List.getElem_toArray, List.getElem_cons_zero, List.getElem_cons_succ, List.setIfInBounds_toArray, List.set_cons_zero, List.set_cons_succ]
          refine wpAnyH_take (i := 3) (v := ?vcq4) rfl (by kernel_rfl) (by kernel_rfl) (by kernel_rfl) (fun _ _ _ h => h) (Or.inl ⟨by rfl, ?hcq4⟩) (by assumption) ?rcq4
          case hcq4 => (intro wq hSw; have hB := (hSw.cell (p := ⟨bb, 0, none⟩) hb3l hbl).trans hbb3; have hY := HY3.out.kp hSw hne3; have z0 := hY.cell 0; have z1 := hY.cell 1; have z2 := hY.cell 2; have z3 := hY.cell 3; unfold trimHd Hd.cells at z0 z1 z2 z3; simp only [List.getElem?_cons_zero, List.getElem?_cons_succ] at z0 z1 z2 z3; go_simp; (try with_reducible rfl))
          try simp only [Act.put, List.getElem_toArray, List.getElem_cons_zero, List.getElem_cons_succ, List.setIfInBounds_toArray, List.set_cons_zero, List.set_cons_succ]
          refine wpAnyH_take (i := 4) (v := ?vcq5) rfl (by kernel_rfl) (by kernel_rfl) (by kernel_rfl) (fun _ _ _ h => h) (Or.inl ⟨by rfl, ?hcq5⟩) (by assumption) ?rcq5
          case hcq5 => (intro wq hSw; have hB := (hSw.cell (p := ⟨bb, 0, none⟩) hb3l hbl).trans hbb3; have hY := HY3.out.kp hSw hne3; have z0 := hY.cell 0; have z1 := hY.cell 1; have z2 := hY.cell 2; have z3 := hY.cell 3; unfold trimHd Hd.cells at z0 z1 z2 z3; simp only [List.getElem?_cons_zero, List.getElem?_cons_succ] at z0 z1 z2 z3; go_simp; (try with_reducible rfl))
          try simp only [Act.put, List.getElem_toArray, List.getElem_cons_zero, List.getElem_cons_succ, List.setIfInBounds_toArray, List.set_cons_zero, List.set_cons_succ]
          refine wpAnyH_take (i := 5) (v := ?vcq6) rfl (by kernel_rfl) (by kernel_rfl) (by kernel_rfl) (fun _ _ _ h => h) (Or.inl ⟨by rfl, ?hcq6⟩) (by assumption) ?rcq6
          case hcq6 => (intro wq hSw; go_simp; (try with_reducible rfl))
          try simp only [Act.put, List.getElem_toArray, List.getElem_cons_zero, List.getElem_cons_succ, List.setIfInBounds_toArray, List.set_cons_zero, List.set_cons_succ]
          refine wpAnyH_take (i := 6) (v := ?vcq7) rfl (by kernel_rfl) (by kernel_rfl) (by kernel_rfl) (fun _ _ _ h => h) (Or.inl ⟨by rfl, ?hcq7⟩) (by assumption) ?rcq7
          case hcq7 => (intro wq hSw; go_simp; (try with_reducible rfl))
          try simp only [Act.put, List.getElem_toArray, List.getElem_cons_zero, List.getElem_cons_succ, List.setIfInBounds_toArray, List.set_cons_zero, List.set_cons_succ]
          refine wpAnyH_ready (rs := [7]) (by kernel_rfl) (by simp) ?_
          refine AllReadyH.cons (o := _) rfl (fun K hK => ?_) ?_
          · skip
            have y5 : wd.cell? ⟨bl, 5, none⟩ = some (.int .i64 (ia : Int)) := HXd.out.cell 5
            go_simp
            refine hK.out _ _ (hHeld) (fun hHeld => ?_)
            clear hK K y5
            try simp only [Act.put, List.getElem_toArray, List.getElem_cons_zero, List.getElem_cons_succ, List.setIfInBounds_toArray, List.set_cons_zero, List.set_cons_succ]
            refine wpAnyH_ready (rs := [8]) (by kernel_rfl) (by simp) ?_
            refine AllReadyH.cons (o := _) rfl (fun K hK => ?_) ?_
            · skip
              go_simp
              refine (HOth wd).out.mono ?_
              rintro e wo ⟨rfl, rfl⟩
              refine hK.out _ _ (hHeld) (fun hHeld => ?_)
              clear hK K 
              try simp only [Act.put, List.getElem_toArray, List.getElem_cons_zero, List.getElem_cons_succ, List.setIfInBounds_toArray, List.set_cons_zero, List.set_cons_succ]
              refine wpAnyH_take (i := 9) (v := ?vcq8) rfl (by kernel_rfl) (by kernel_rfl) (by kernel_rfl) (fun _ _ _ h => h) (Or.inl ⟨by rfl, ?hcq8⟩) (by assumption) ?rcq8
              case hcq8 => (intro wq hSw; go_simp; (try with_reducible rfl))
              try simp only [Act.put, List.getElem_toArray, List.getElem_cons_zero, List.getElem_cons_succ, List.setIfInBounds_toArray, List.set_cons_zero, List.set_cons_succ]
              refine wpAnyH_take (i := 10) (v := ?vcq9) rfl (by kernel_rfl) (by kernel_rfl) (by kernel_rfl) (fun _ _ _ h => h) (Or.inl ⟨by rfl, ?hcq9⟩) (by assumption) ?rcq9
              case hcq9 => (intro wq hSw; go_simp; (try with_reducible rfl))
              try simp only [Act.put, List.getElem_toArray, List.getElem_cons_zero, List.getElem_cons_succ, List.setIfInBounds_toArray, List.set_cons_zero, List.set_cons_succ]
              refine wpAnyH_ready (rs := [11]) (by kernel_rfl) (by simp) ?_
              refine AllReadyH.cons (o := _) rfl (fun K hK => ?_) ?_
              · skip
                have y1 : wd.cell? ⟨bl, 1, none⟩ = some (.int .u64 h.gen) := HXd.out.cell 1
                have x1 := HXd.out.frozen 1
                have y2 : wd.cell? ⟨bl, 2, none⟩ = some (.int .u64 h.first) := HXd.out.cell 2
                have x2 := HXd.out.frozen 2
                have y3 : wd.cell? ⟨bl, 3, none⟩ = some (.int .i64 (h.sec : Int)) := HXd.out.cell 3
                have x3 := HXd.out.frozen 3
                have y4 : wd.cell? ⟨bl, 4, none⟩ = some (.string h.note) := HXd.out.cell 4
                have x4 := HXd.out.frozen 4
                go_simp
                have h1 := ((((HXd.out).set_ 1 (.int .u64 (h.gen + 1))).set_ 2 (.int .u64 next)).set_ 3 (.int .i64 (h.sec : Int))).set_ 4 (.string h.note)
                have hH := ((((hHeld).setCell (p := ⟨bl, 1, none⟩) (.inl rfl) (.int .u64 (h.gen + 1))).setCell (p := ⟨bl, 2, none⟩) (.inl rfl) (.int .u64 next)).setCell (p := ⟨bl, 3, none⟩) (.inl rfl) (.int .i64 (h.sec : Int))).setCell (p := ⟨bl, 4, none⟩) (.inl rfl) (.string h.note)
                generalize ((((wd).setCell ⟨bl, 1, none⟩ (.int .u64 (h.gen + 1))).setCell ⟨bl, 2, none⟩ (.int .u64 next)).setCell ⟨bl, 3, none⟩ (.int .i64 (h.sec : Int))).setCell ⟨bl, 4, none⟩ (.string h.note) = wz1 at *
                have HZ1 := hide (show Whole wz1 bl 74 [.pointer (some ⟨bd, 0, none⟩), .int .u64 (h.gen + 1), .int .u64 next, .int .i64 (h.sec : Int), .string h.note, .int .i64 (ia : Int), .int .u64 next, .int .i64 used, .bool false] from h1)
                refine hK.out _ _ (hH) (fun hHeld => ?_)
                clear hK K h1 hH y1 x1 y2 x2 y3 x3 y4 x4
                try simp only [Act.put, List.getElem_toArray, List.getElem_cons_zero, List.getElem_cons_succ, List.setIfInBounds_toArray, List.set_cons_zero, List.set_cons_succ]
                refine wpAnyH_take (i := 12) (v := ?vcq10) rfl (by kernel_rfl) (by kernel_rfl) (by kernel_rfl) (fun _ _ _ h => h) (Or.inl ⟨by rfl, ?hcq10⟩) (by assumption) ?rcq10
                case hcq10 => (intro wq hSw; go_simp; (try with_reducible rfl))
                try simp only [Act.put, List.getElem_toArray, List.getElem_cons_zero, List.getElem_cons_succ, List.setIfInBounds_toArray, List.set_cons_zero, List.set_cons_succ]
                refine wpAnyH_take (i := 13) (v := ?vcq11) rfl (by kernel_rfl) (by kernel_rfl) (by kernel_rfl) (fun _ _ _ h => h) (Or.inl ⟨by rfl, ?hcq11⟩) (by assumption) ?rcq11
                case hcq11 => (intro wq hSw; go_simp; (try with_reducible rfl))
                try simp only [Act.put, List.getElem_toArray, List.getElem_cons_zero, List.getElem_cons_succ, List.setIfInBounds_toArray, List.set_cons_zero, List.set_cons_succ]
                refine wpAnyH_ready (rs := [14]) (by kernel_rfl) (by simp) ?_
                refine AllReadyH.cons (o := _) rfl (fun K hK => ?_) ?_
                · skip
                  have y5 : wz1.cell? ⟨bl, 5, none⟩ = some (.int .i64 (ia : Int)) := HZ1.out.cell 5
                  have x5 := HZ1.out.frozen 5
                  go_simp
                  have h1 := (HZ1.out).set_ 5 (.int .i64 ((1 - ia : Nat) : Int))
                  have hH := (hHeld).setCell (p := ⟨bl, 5, none⟩) (.inl rfl) (.int .i64 ((1 - ia : Nat) : Int))
                  generalize (wz1).setCell ⟨bl, 5, none⟩ (.int .i64 ((1 - ia : Nat) : Int)) = wz2 at *
                  have HZ2 := hide (show Whole wz2 bl 74 [.pointer (some ⟨bd, 0, none⟩), .int .u64 (h.gen + 1), .int .u64 next, .int .i64 (h.sec : Int), .string h.note, .int .i64 ((1 - ia : Nat) : Int), .int .u64 next, .int .i64 used, .bool false] from h1)
                  refine hK.out _ _ (hH) (fun hHeld => ?_)
                  clear hK K h1 hH y5 x5
                  try simp only [Act.put, List.getElem_toArray, List.getElem_cons_zero, List.getElem_cons_succ, List.setIfInBounds_toArray, List.set_cons_zero, List.set_cons_succ]
                  refine wpAnyH_take (i := 15) (v := ?vcq12) rfl (by kernel_rfl) (by kernel_rfl) (by kernel_rfl) (fun _ _ _ h => h) (Or.inl ⟨by rfl, ?hcq12⟩) (by assumption) ?rcq12
                  case hcq12 => (intro wq hSw; go_simp; (try with_reducible rfl))
                  try simp only [Act.put, List.getElem_toArray, List.getElem_cons_zero, List.getElem_cons_succ, List.setIfInBounds_toArray, List.set_cons_zero, List.set_cons_succ]
                  refine wpAnyH_take (i := 16) (v := ?vcq13) rfl (by kernel_rfl) (by kernel_rfl) (by kernel_rfl) (fun _ _ _ h => h) (Or.inl ⟨by rfl, ?hcq13⟩) (by assumption) ?rcq13
                  case hcq13 => (intro wq hSw; go_simp; (try with_reducible rfl))
                  try simp only [Act.put, List.getElem_toArray, List.getElem_cons_zero, List.getElem_cons_succ, List.setIfInBounds_toArray, List.set_cons_zero, List.set_cons_succ]
                  refine wpAnyH_ready (rs := [17]) (by kernel_rfl) (by simp) ?_
                  refine AllReadyH.cons (o := _) rfl (fun K hK => ?_) ?_
                  · skip
                    have y7 : wz2.cell? ⟨bl, 7, none⟩ = some (.int .i64 used) := HZ2.out.cell 7
                    have x7 := HZ2.out.frozen 7
                    go_simp
                    have h1 := (HZ2.out).set_ 7 (.int .i64 0)
                    have hH := (hHeld).setCell (p := ⟨bl, 7, none⟩) (.inl rfl) (.int .i64 0)
                    generalize (wz2).setCell ⟨bl, 7, none⟩ (.int .i64 0) = wz3 at *
                    have HZ3 := hide (show Whole wz3 bl 74 [.pointer (some ⟨bd, 0, none⟩), .int .u64 (h.gen + 1), .int .u64 next, .int .i64 (h.sec : Int), .string h.note, .int .i64 ((1 - ia : Nat) : Int), .int .u64 next, .int .i64 0, .bool false] from h1)
                    refine hK.out _ _ (hH) (fun hHeld => ?_)
                    clear hK K h1 hH y7 x7
                    try simp only [Act.put, List.getElem_toArray, List.getElem_cons_zero, List.getElem_cons_succ, List.setIfInBounds_toArray, List.set_cons_zero, List.set_cons_succ]
                    refine wpAnyH_done (by kernel_rfl) ?_ _
                    have hlg : Lg wz3 bl bd (trimHd h next) ((1 - ia : Nat) : Int) next 0 := HZ3.out
                    have HLF := hide (show LD wz3 bl bd n F' (upd c (1 - ia) (trimHd h next).bytes) 0 (trimHd h next) ((1 - ia : Nat) : Int) next 0 from ⟨hlg, HD3.out.kp hHeld (fun k hf hg => hbl3 (by cases hg; exact hf)), hbl3⟩)
                    have HKF := hide (HKW.out.trans hHeld (fun i hi => .inl (.inl hi)))
                    clear hlg hHeld
                    go_wp2_with fail
                    go_ret
                    exact ⟨rfl, F', HLF.out, HKF.out, HFW.out⟩
                  exact AllReadyH.nil
                exact AllReadyH.nil
              exact AllReadyH.nil
            exact AllReadyH.nil
          exact AllReadyH.nil
        exact AllReadyH.nil
      exact AllReadyH.nil
    exact AllReadyH.nil
  exact AllReadyH.nil
set_option maxHeartbeats 1000000 in
theorem trim_any (bl bd n : Nat) (F : Nat → Prop) (c : Nat → List Int) (m : Nat) (h : Hd) (ia : Nat) (next used : Int) (W : World) (hl : LD W bl bd n F c m h ia next used)
    (hm : m + 1 ≤ 100000) (hg : h.good) (hg1 : h.gen < 4294967296) (hi : ia ≤ 1) (hnx : 0 ≤ next ∧ next < 18446744073709551616) (hn : 2 ≤ n) (ht : Tab W) :
    Calls Tryz.prog 65 #[.pointer (some ⟨bl, 0, none⟩)] W (LDRes bl bd n F (upd c (1 - ia) (trimHd h next).bytes) 0 (trimHd h next) ((1 - ia : Nat) : Int) next 0 W) := by
  have ef : ∀ args w, (callFunc 99 args).run Tryz.prog w = .ok (.enter 99 args) w := enters_of Tryz.func99 (by kernel_rfl) rfl
  have hb : Below W.heap.size W (W.alloc (.cells #[.pointer (some ⟨bl, 0, none⟩)] 51)) := (Below.refl _ _).alloc (Nat.le_refl _) _
  have hx := Whole.new W [.pointer (some ⟨bl, 0, none⟩)] 51
  change Whole (W.alloc (.cells #[.pointer (some ⟨bl, 0, none⟩)] 51)) _ _ _ at hx
  have hc0 : (W.alloc (.cells #[.pointer (some ⟨bl, 0, none⟩)] 51)).cell? ⟨W.heap.size, 0, none⟩ = some (.pointer (some ⟨bl, 0, none⟩)) := hx.cell 0
  have HFn := hide ((trimFn_any bl bd n F c m h ia next used W.heap.size _ (hl.below hb) hc0 (fun hf => by have := hl.ds.lt hf; omega) (by have := hl.lt; omega) hm hg hg1 hi hnx hn (ht.below hb)))
  have HDo := hide (does_any _ _ _ (hl.below hb) ef HFn.out)
  have HB := hide hb
  clear hl ht hb hx hg hnx HFn
  go_enter Tryz.func65, Tryz.ntmps65
  go_wp2_with fail
  generalize W.alloc (.cells #[.pointer (some ⟨bl, 0, none⟩)] 51) = w1 at *
  refine HDo.out.mono ?_
  rintro e w2 hr
  have HR := hide (LDRes.from_ HB.out hr)
  obtain ⟨rfl, _⟩ := hr
  go_wp2_with fail
  go_ret
  exact HR.out
theorem tdiv497 (k : Nat) (x : Int) (hx : x = k) : x.tdiv 497 = ((k / 497 : Nat) : Int) := by
  subst hx
  rw [Int.tdiv_eq_ediv_of_nonneg (by omega)]
  omega
def needN (k : Nat) : Nat := max 1 ((k + 496) / 497)
set_option maxHeartbeats 400000 in
theorem need_any (k : Nat) (w : World) (hk : k ≤ 1000000) : Calls Tryz.prog 70 #[.int .i64 k] w fun e w' => e = .returned (.int .i64 (needN k)) ∧ w = w' := by
  have h1 : IntKind.i64.wrap ((k : Int) + 497) = (k : Int) + 497 := IntWalk.i64_in _ (by omega)
  have h2 : IntKind.i64.wrap ((k : Int) + 497 - 1) = ((k + 496 : Nat) : Int) := by rw [IntWalk.i64_in _ (by omega)]; omega
  have h3 := tdiv497 (k + 496) _ rfl
  have h4 : IntKind.i64.wrap (((k + 496) / 497 : Nat) : Int) = (((k + 496) / 497 : Nat) : Int) := IntWalk.i64_in _ (by omega)
  go_enter Tryz.func70, Tryz.ntmps70
  go_wp2
  go_ret
  refine ⟨?_, rfl⟩
  have e : max (1 : Int) (((k : Int) + 496) / 497) = ((needN k : Nat) : Int) := by unfold needN; omega
  rw [e]
  rfl
end Go.Proofs.YtccnihdkjcjeoaaGreatDoor
namespace Go.Proofs.YtccnihdkjcjeoaaGreatDoor
open Go.RowKit Go.Shelf

theorem bWrite (B b : Nat) (bs : List Value) (s : ByteArray) (w : World) (h : Lib.IsBuilderF 103 5 B b bs w) (hlen : bs.length + s.size ≤ 140737488355328) (hBw : B ≤ w.heap.size) :
    Calls Tryz.prog 49 #[.pointer (some ⟨b, 0, none⟩), .string s] w fun e w' => e = .returned (.tuple #[.int .i64 s.size, .nilIface]) ∧ (Lib.BuilderAtF 103 5 B b (.pointer (some ⟨b, 0, none⟩)) (bs ++ Lib.strCells s) w' ∧ Below B w w' ∧ Lib.OthersKept 5 (some b) w w') :=
  Any.Builder_WriteString_k { Tryz.lays105 with } extra B b bs s w h hlen hBw
theorem bString (B b : Nat) (l : List UInt8) (w : World) (h : Lib.IsBuilderF 103 5 B b (Lib.byteCells l) w) (hBw : B ≤ w.heap.size) :
    Calls Tryz.prog 50 #[.pointer (some ⟨b, 0, none⟩)] w fun e w' => e = .returned (.string ⟨l.toArray⟩) ∧ (Lib.IsBuilderF 103 5 B b (Lib.byteCells l) w' ∧ Below B w w' ∧ Lib.OthersKept 5 (some b) w w') :=
  Any.Builder_String_any_k { Tryz.lays105 with } extra B b l w h hBw
theorem Sh.data_inj {s s' : Sh} (h : s.data = s'.data) : s = s' := by
  unfold Sh.data at h
  injection h with h
  injection h with h1 h
  injection h with h2 h
  injection h with h3 h
  injection h1 with h1
  injection h1 with _ h1
  injection h2 with h2
  injection h2 with h2
  injection h3 with h3
  injection h3 with h3
  obtain ⟨a, b, c⟩ := s
  obtain ⟨a', b', c'⟩ := s'
  have h4 : c = c' := ByteArray.ext (Array.toList_inj.1 h3)
  cases h1
  cases h2
  cases h4
  rfl
theorem u64_key (q : Int) : WideAt.IsKeyLit (.int .u64 q) := by simp [WideAt.IsKeyLit]
/-- a map of sheets, as a function -/
structure ShV (D : DataW Unit) (f : Int → Option Sh) : Prop where
  map : Maps.IsMap D
  some_ : ∀ q s, f q = some s → Maps.has D (.int .u64 q) = true ∧ ∀ z, D.atKey (.int .u64 q) z = s.data
  none_ : ∀ q, f q = none → Maps.has D (.int .u64 q) = false
def setS (f : Int → Option Sh) (s : Sh) : Int → Option Sh := fun q => if q = s.seq then some s else f q
theorem ShV.empty : ShV (.map []) (fun _ => none) := ⟨⟨_, rfl⟩, fun i xs h => (by cases h), fun _ _ => rfl⟩
theorem ShV.put {D : DataW Unit} {f : Int → Option Sh} (h : ShV D f) (s : Sh) : ShV (D.put (.int .u64 s.seq) s.data) (setS f s) := by
  refine ⟨h.map.put _ _, fun j ys hj => ?_, fun j hj => ?_⟩
  · unfold setS at hj
    by_cases e : j = s.seq
    · subst e
      rw [if_pos rfl] at hj
      cases hj
      exact ⟨Maps.has_put_same h.map (u64_key _) _, fun z => Maps.atKey_put_same h.map (u64_key _) _ z⟩
    · rw [if_neg e] at hj
      obtain ⟨h1, h2⟩ := h.some_ j ys hj
      have hne : (Lit.int .u64 j) ≠ .int .u64 s.seq := fun h => by injection h; exact e (by assumption)
      exact ⟨(Maps.has_put_other hne _).trans h1, fun z => (Maps.atKey_put_other hne _ z).trans (h2 z)⟩
  · unfold setS at hj
    by_cases e : j = s.seq
    · rw [if_pos e] at hj; cases hj
    · rw [if_neg e] at hj
      have hne : (Lit.int .u64 j) ≠ .int .u64 s.seq := fun h => by injection h; exact e (by assumption)
      exact (Maps.has_put_other hne _).trans (h.none_ j hj)
theorem ShV.found {D : DataW Unit} {f : Int → Option Sh} (h : ShV D f) {q : Int} {s : Sh} (hf : f q = some s) {v : Value} {ps : List MemPlace} {z : DataW Unit} (hv : shR v = some (D.atKey (.int .u64 q) z, ps)) : v = s.val := by
  obtain ⟨s', rfl⟩ := shR_inv _ _ hv
  rw [shR_val, (h.some_ q s hf).2 z] at hv
  injection hv with hv
  injection hv with hv _
  rw [Sh.data_inj hv]
/-- the sheets that lie in their places -/
def fTo (xs : Nat → Option Sh) (sec : Nat) : Nat → Int → Option Sh
  | 0 => fun _ => none
  | k + 1 => match xs k with
    | none => fTo xs sec k
    | some s => if s.seq % sec = k then setS (fTo xs sec k) s else fTo xs sec k
theorem shTo_view (xs : Nat → Option Sh) (sec k : Nat) : ShV (shTo xs sec k) (fTo xs sec k) := by
  induction k with
  | zero => exact ShV.empty
  | succ k ih =>
    unfold shTo fTo shStep
    cases xs k with
    | none => exact ih
    | some s =>
      show ShV (if _ then _ else _) (if _ then _ else _)
      split
      · exact ih.put s
      · exact ih
/-- whole texts, and what is begun, behind so many sheets -/
def roll (t : Nat → Sh) : Nat → List ByteArray × List UInt8
  | 0 => ([], [])
  | k + 1 => if (t k).last then ((roll t k).1 ++ [⟨((roll t k).2 ++ (t k).text.data.toList).toArray⟩], []) else ((roll t k).1, (roll t k).2 ++ (t k).text.data.toList)
theorem roll_len (t : Nat → Sh) (k : Nat) : (roll t k).1.length ≤ k := by
  induction k with
  | zero => exact Nat.le_refl _
  | succ k ih => unfold roll; split <;> simp <;> omega
theorem roll_cur (t : Nat → Sh) (k : Nat) (h : ∀ i, i < k → (t i).text.size ≤ 497) : (roll t k).2.length ≤ 497 * k := by
  induction k with
  | zero => exact Nat.le_refl _
  | succ k ih =>
    have h1 := ih fun i hi => h i (by omega)
    have h2 := h k (by omega)
    unfold roll
    split
    · simp
    · rw [List.length_append, size_list]
      omega
theorem strCells_list (s : ByteArray) : Lib.strCells s = Lib.byteCells s.data.toList := rfl
theorem bytes_app (a b : List UInt8) : Lib.byteCells (a ++ b) = Lib.byteCells a ++ Lib.byteCells b := by simp [Lib.byteCells]
/-- behind Reset -/
theorem breset_any (b : Nat) (p v : Value) (w : World) (h : Whole w b 103 [p, v]) : Calls Tryz.prog 51 #[.pointer (some ⟨b, 0, none⟩)] w fun e w' => e = .returned (.tuple #[]) ∧ Whole w' b 103 [.pointer none, .slice none 0 0] ∧ Kp (OnlyF b) w w' := by
  have HW := hide h
  have c0 := h.cell 0
  have c1 := h.cell 1
  have f0 := h.frozen 0
  have f1 := h.frozen 1
  clear h
  go_enter Tryz.func51, Tryz.ntmps51
  go_wp2_with fail
  go_end0
  exact ⟨rfl, (HW.out.set_ 0 _).set_ 1 _, ((Kp.refl (OnlyF b) w).setCell (p := ⟨b, 0, none⟩) (.inl rfl) _).setCell (p := ⟨b, 1, none⟩) (.inl rfl) _⟩
theorem bfresh {w : World} {B b : Nat} (hB : B ≤ b) (h : Whole w b 103 [.pointer none, .slice none 0 0]) : Lib.IsBuilderF 103 5 B b (Lib.byteCells []) w := by
  refine .inl ⟨hB, .slice none 0 0, h, ?_, by simp [Value.ownBlock]⟩
  exact ⟨rfl, .inl ⟨rfl, rfl⟩⟩
/-- while texts are put together -/
structure TxW (W w : World) (bm n : Nat) (D : DataW Unit) (y : Value) (out : List ByteArray) (cur : List UInt8) : Prop where
  map : w.ownsMap Tryz.prog 47 shR bm n D
  own : w.ownsRow (W.heap.size + 1) 9 1 y out.length (strs out)
  bld : Lib.IsBuilderF 103 5 W.heap.size W.heap.size (Lib.byteCells cur) w
  bel : Below W.heap.size W w
theorem shmap_kp {F : Nat → Prop} {w w' : World} {bm n : Nat} {D : DataW Unit} (h : w.ownsMap Tryz.prog 47 shR bm n D) (hk : Kp F w w') (hn : ¬ F bm) : w'.ownsMap Tryz.prog 47 shR bm n D := by
  obtain ⟨es, clock, h1, h2⟩ := h
  exact ⟨es, clock, (hk.block bm (Array.getElem?_eq_some_iff.1 h1).1 hn).trans h1, h2⟩
theorem shmap_below {w w' : World} {B bm n : Nat} {D : DataW Unit} (h : w.ownsMap Tryz.prog 47 shR bm n D) (hb : Below B w w') (hB : bm < B) : w'.ownsMap Tryz.prog 47 shR bm n D := by
  obtain ⟨es, clock, h1, h2⟩ := h
  exact ⟨es, clock, (hb.block bm hB).trans h1, h2⟩
theorem owns_others {w w' : World} {base size n b : Nat} {e e' : TypeId} {v : Value} {xs : List Value} (h : w.ownsRow base e size v n xs) (hk : Lib.OthersKept e' (some b) w w') (hb : b < base) (he : e ≠ e') : w'.ownsRow base e size v n xs := by
  refine owns_block h fun g hg => ?_
  rcases h.2 with ⟨rfl, rfl⟩ | ⟨g', cap, cur, rfl, hbg, hc, _⟩
  · cases hg
  · cases hg
    rw [hc]
    exact hk _ _ hc (fun e => by injection e with e; have e : g' = b := e; omega) (fun c fz e => by injection e with _ e _; exact he e)
theorem builder_whole {w : World} {T e : TypeId} {B b : Nat} {bs : List Value} (h : Lib.IsBuilderF T e B b bs w) : ∃ p v, Whole w b T [p, v] := by
  rcases h with ⟨_, v, h, _⟩ | ⟨_, v, h, _⟩
  · exact ⟨_, _, h⟩
  · exact ⟨_, _, h⟩
theorem builder_alloc {w : World} {T e : TypeId} {B b : Nat} {bs : List Value} (h : Lib.IsBuilderF T e B b bs w) (o : Obj) : Lib.IsBuilderF T e B b bs (w.alloc o) := h.imp (fun h => h.alloc o) (fun h => h.alloc o)
theorem TxW.alloc {W w : World} {bm n : Nat} {D : DataW Unit} {y : Value} {out : List ByteArray} {cur : List UInt8} (h : TxW W w bm n D y out cur) (o : Obj) : TxW W (w.alloc o) bm n D y out cur := ⟨h.map.alloc o, h.own.alloc o, builder_alloc h.bld o, h.bel.alloc h.bel.size o⟩
/-- behind texts -/
def TextsRes (ts : List ByteArray) (W : World) (e : Ending) (W' : World) : Prop := ∃ v, e = .returned v ∧ W'.ownsRow (W.heap.size + 1) 9 1 v ts.length (strs ts) ∧ Below W.heap.size W W'
theorem infoStr : (Tryz.prog.info? 9).map (fun i => (i.zero, i.size, i.bytes)) = some (some (.string ByteArray.empty), 1, 16) := by kernel_rfl
set_option maxHeartbeats 4000000 in
set_option maxRecDepth 20000 in
theorem texts_any (bm n : Nat) (D : DataW Unit) (f : Int → Option Sh) (t : Nat → Sh) (m : Nat) (first : Int) (W : World) (h : W.ownsMap Tryz.prog 47 shR bm n D) (hv : ShV D f) (h0 : 0 ≤ first) (h1 : first + m < 18446744073709551616) (hm : m ≤ 100000)
    (hg : ∀ i, i < m → (t i).good) (hs : ∀ i : Nat, i < m → f (first + i) = some (t i)) (he : f (first + m) = none) :
    Calls Tryz.prog 30 #[.map (some bm), .int .u64 first] W (TextsRes (roll t m).1 W) := by
  obtain ⟨i0, hi, hz0, hz1, hz2⟩ := info_parts infoStr
  have hbm : bm < W.heap.size := by
    obtain ⟨es, clock, h1, _⟩ := h
    exact (Array.getElem?_eq_some_iff.1 h1).1
  have HM := hide h
  have HV := hide hv
  have HG := hide hg
  have HS := hide hs
  have HE := hide he
  have H1 := hide h1
  clear h hv hg hs he h1
  go_enter Tryz.func30, Tryz.ntmps30
  go_wp2_with fail
  go_step3
  go_wp2_with fail
  go_step3
  go_wp2_with fail
  have HT0 := hide (show TxW W (W.alloc (.cells #[.pointer none, .slice none 0 0] 103)) bm n D (.slice none 0 0) [] [] from
    ⟨HM.out.alloc _, ⟨rfl, .inl ⟨rfl, rfl⟩⟩, bfresh (Nat.le_refl _) (Whole.new W [.pointer none, .slice none 0 0] 103), (Below.refl _ _).alloc (Nat.le_refl _) _⟩)
  have HZ := hide (show ∀ w, (zeroValue 97).run Tryz.prog w = .ok (Sh.val ⟨0, false, ⟨#[]⟩⟩) w from Tryz.zeroValue97)
  generalize W.alloc (.cells #[.pointer none, .slice none 0 0] 103) = w1 at *
  go_loopw [5, 7] (fun y x wr => ∃ k : Nat, k ≤ m ∧ x = .int .u64 (first + k) ∧ TxW W wr bm n D y (roll t k).1 (roll t k).2) (fun _ x _ => (first + m - intOf x).toNat)
  case atStart => exact ⟨0, Nat.zero_le _, by simp, HT0.out⟩
  case round =>
    obtain ⟨k, hk, rfl, htx⟩ := hrel
    have HT := hide htx
    clear htx HT0
    have HWf := hide (u64_wf (n := first + (k : Int)) (by omega) (by have := H1.out; omega))
    by_cases hlt : k < m
    · have HF := hide (HS.out k hlt)
      have HGd := hide (HG.out k hlt)
      have HRoll := hide (show roll t (k + 1) = if (t k).last then ((roll t k).1 ++ [⟨((roll t k).2 ++ (t k).text.data.toList).toArray⟩], []) else ((roll t k).1, (roll t k).2 ++ (t k).text.data.toList) from rfl)
      have HCur := hide (roll_cur t k (fun i hi => (HG.out i (by omega)).2))
      have HOut := hide (roll_len t k)
      have hw : IntKind.u64.wrap (first + (k : Int) + 1) = first + (k : Int) + 1 := by have := H1.out; rw [IntKind.wrap_u64]; omega
      generalize (roll t k).1 = out at *
      generalize (roll t k).2 = cur at *
      generalize t k = s at *
      go_wp2_with (at_lookup; refine wpList_lookup_own_ok _ rfl _ _ 69 rfl 47 97 (Maps.int_keyed Tryz.underlying47) Tryz.underlying69 shR (HZ.out _) (Sh.data ⟨0, false, ⟨#[]⟩⟩) [] rfl bm n D rfl HT.out.map (.int .u64 (first + (k : Int))) (.int .u64 (first + (k : Int))) rfl (Maps.keyOf_int_mk Tryz.underlying47 HWf.out) ?_)
      intro v ps hv
      obtain rfl := HV.out.found HF.out hv
      have hhas := (HV.out.some_ _ _ HF.out).1
      clear hv
      rw [hhas]
      clear hhas
      unfold Sh.val
      have HT3 := hide (HT.out.alloc (.cells [.int .u64 s.seq, .bool s.last, .string s.text].toArray 97))
      have HX3 := hide (Whole.new wr [.int .u64 s.seq, .bool s.last, .string s.text] 97)
      go_upto_region 7 with fail
      change Code.wp _ _ _ _ (wr.alloc (.cells [.int .u64 s.seq, .bool s.last, .string s.text].toArray 97))
      generalize wr.alloc (.cells [.int .u64 s.seq, .bool s.last, .string s.text].toArray 97) = w3 at *
      have hB3 : W.heap.size < wr.heap.size := by
        obtain ⟨p, v, hw⟩ := builder_whole HT.out.bld
        exact hw.lt
      generalize wr.heap.size = b3 at *
      have q1 := HX3.out.cell 1
      have q2 := HX3.out.cell 2
      have hsz := HGd.out.2
      have hcu := HCur.out
      go_wp2_with fail
      refine (bWrite _ _ _ _ _ HT3.out.bld (by rw [Lib.byteCells_length]; omega) HT3.out.bel.size).mono ?_
      rintro e w4 ⟨rfl, g1, g2, g3⟩
      have HT4 := hide (show TxW W w4 bm n D u5 out (cur ++ s.text.data.toList) from ⟨shmap_below HT3.out.map g2 hbm, owns_others HT3.out.own g3 (Nat.lt_succ_self _) (by decide), .inr (by rw [bytes_app]; exact g1), HT3.out.bel.trans g2⟩)
      have HX4 := hide (show Whole w4 b3 97 [.int .u64 s.seq, .bool s.last, .string s.text] from g3 _ _ HX3.out (fun e => by injection e with e; omega) (fun c fz e => by injection e with _ e _; exact absurd e (by decide)))
      clear g1 g2 g3 q1 q2 HX3 HT3
      have q1 := HX4.out.cell 1
      cases hl : s.last with
      | false =>
        rw [hl] at q1 HRoll
        have HR := hide (HRoll.out.trans (if_neg (by decide)))
        go_wp2_with fail
        refine ⟨⟨k + 1, by omega, by rw [Int.natCast_add, Int.natCast_one, Int.add_assoc], ?_⟩, ?_⟩
        · rw [HR.out]
          exact HT4.out
        · show (first + m - (first + (k : Int) + 1)).toNat < (first + m - (first + (k : Int))).toNat
          omega
      | true =>
        rw [hl] at q1 HRoll
        have HR := hide (HRoll.out.trans (if_pos rfl))
        go_wp2_with fail
        refine (bString _ _ _ _ HT4.out.bld HT4.out.bel.size).mono ?_
        rintro e w5 ⟨rfl, g1, g2, g3⟩
        have HT5 := hide (show TxW W w5 bm n D u5 out (cur ++ s.text.data.toList) from ⟨shmap_below HT4.out.map g2 hbm, owns_others HT4.out.own g3 (Nat.lt_succ_self _) (by decide), g1, HT4.out.bel.trans g2⟩)
        clear g1 g2 g3
        generalize (⟨(cur ++ s.text.data.toList).toArray⟩ : ByteArray) = tx at *
        go_wp2_with (at_builtin; refine wpList_append_own _ rfl _ _ 52 rfl (W.heap.size + 1) 9 i0 (.string ByteArray.empty) 1 16 Tryz.underlying52 hi hz0 hz1 hz2 rfl (by decide) _ _ _ rfl (HT5.out.own.alloc _) ⟨w5.heap.size, 0, none⟩ 1 1 [.string tx] rfl rfl ?c1 ?c2 ?c3 ?c4 ?c5 ?_)
        case c1 => exact fun j u hu => new_cells w5 _ _ j u hu
        case c2 => intro u hu; simp only [List.mem_singleton] at hu; subst hu; rfl
        case c3 => have := HOut.out; unfold maxLen; omega
        case c4 => have := HOut.out; omega
        case c5 =>
          have h1 : (w5.alloc (.cells #[.string tx] 9)).heap.size = w5.heap.size + 1 := by simp
          have h2 := HT5.out.bel.size
          omega
        intro v2 w6 hown2 hg2 _
        obtain ⟨p6, v6, hw5⟩ := builder_whole HT5.out.bld
        have hl5 := hw5.lt
        have e6 : (w5.alloc (.cells #[.string tx] 9)).heap.size = w5.heap.size + 1 := by simp
        have hb6 : Below (W.heap.size + 1) w5 w6 := ((Below.refl (W.heap.size + 1) w5).alloc (by omega) (.cells #[.string tx] 9)).grown hg2 (by rw [e6]; omega) (fun g hg => (HT5.out.own.lt g hg).1)
        have HO6 := hide (show w6.ownsRow (W.heap.size + 1) 9 1 v2 (out ++ [tx]).length (strs (out ++ [tx])) from by
          have e1 : (out ++ [tx]).length = out.length + 1 := by simp
          have e2 : strs (out ++ [tx]) = strs out ++ [.string tx] := by simp [strs]
          rw [e1, e2]
          exact hown2)
        have HW6 := hide (hw5.below hb6 (Nat.lt_succ_self _))
        have HM6 := hide (shmap_below HT5.out.map hb6 (by omega))
        have HB6 := hide (HT5.out.bel.trans (hb6.mono (Nat.le_succ _)))
        clear hown2 hg2 hb6 hw5
        go_wp2_with fail
        refine (breset_any _ _ _ _ HW6.out).mono ?_
        rintro e w7 ⟨rfl, g1, g2⟩
        have HT7 := hide (show TxW W w7 bm n D v2 (out ++ [tx]) [] from ⟨shmap_kp HM6.out g2 (fun e => by have e : bm = W.heap.size := e; omega), owns_block HO6.out (fun g hg => g2.block g (HO6.out.lt g hg).2 (fun e => by have e : g = W.heap.size := e; have := (HO6.out.lt g hg).1; omega)), bfresh (Nat.le_refl _) g1, HB6.out.trans (g2.below HB6.out.size (fun i hi => by have hi : i = W.heap.size := hi; omega))⟩)
        clear g1 g2
        go_wp2_with fail
        refine ⟨⟨k + 1, by omega, by rw [Int.natCast_add, Int.natCast_one, Int.add_assoc], ?_⟩, ?_⟩
        · rw [HR.out]
          exact HT7.out
        · show (first + m - (first + (k : Int) + 1)).toNat < (first + m - (first + (k : Int))).toNat
          omega
    · obtain rfl : k = m := by omega
      have HF := hide (HV.out.none_ _ HE.out)
      go_wp2_with (at_lookup; refine wpList_lookup_own_ok _ rfl _ _ 69 rfl 47 97 (Maps.int_keyed Tryz.underlying47) Tryz.underlying69 shR (HZ.out _) (Sh.data ⟨0, false, ⟨#[]⟩⟩) [] rfl bm n D rfl HT.out.map (.int .u64 (first + (k : Int))) (.int .u64 (first + (k : Int))) rfl (Maps.keyOf_int_mk Tryz.underlying47 HWf.out) ?_)
      intro v ps hv
      obtain ⟨s, rfl⟩ := shR_inv _ _ hv
      clear hv
      rw [HF.out]
      unfold Sh.val
      go_wp2_with fail
      rw [Exit.noGoto_ret]
      have HT3 := hide (HT.out.alloc (.cells #[.int .u64 s.seq, .bool s.last, .string s.text] 97))
      go_ret
      exact ⟨_, rfl, HT3.out.own, HT3.out.bel⟩
end Go.Proofs.YtccnihdkjcjeoaaGreatDoor
namespace Go.Proofs.YtccnihdkjcjeoaaGreatDoor
open Go.RowKit Go.Shelf

theorem fTo_mem (xs : Nat → Option Sh) (sec : Nat) (k : Nat) (q : Int) (s : Sh) (h : fTo xs sec k q = some s) : ∃ j, j < k ∧ xs j = some s ∧ s.seq = q := by
  induction k with
  | zero => cases h
  | succ k ih =>
    unfold fTo at h
    have hold : fTo xs sec k q = some s → ∃ j, j < k + 1 ∧ xs j = some s ∧ s.seq = q := fun h => by
      obtain ⟨j, h1, h2⟩ := ih h
      exact ⟨j, by omega, h2⟩
    cases hx : xs k with
    | none =>
      rw [hx] at h
      exact hold h
    | some s' =>
      rw [hx] at h
      have h : (if s'.seq % (sec : Int) = k then setS (fTo xs sec k) s' else fTo xs sec k) q = some s := h
      split at h
      · unfold setS at h
        split at h
        · rename_i e
          cases h
          exact ⟨k, by omega, hx, e.symm⟩
        · exact hold h
      · exact hold h
/-- a number behind all that are there -/
def NextIs (f : Int → Option Sh) (first v : Int) : Prop := first ≤ v ∧ v < 18446744073709551616 ∧ (∀ q s, f q = some s → q + 1 ≤ v) ∧ (v = first ∨ ∃ q s, f q = some s ∧ v = q + 1)
set_option maxHeartbeats 2000000 in
set_option maxRecDepth 20000 in
theorem next2_any (bm n : Nat) (D : DataW Unit) (f : Int → Option Sh) (first : Int) (W : World) (h : W.ownsMap Tryz.prog 47 shR bm n D) (hv : ShV D f) (hf : 0 ≤ first ∧ first < 18446744073709551616) (hq : ∀ q s, f q = some s → 0 ≤ q ∧ q + 1 < 18446744073709551616) :
    Calls Tryz.prog 29 #[.map (some bm), .int .u64 first] W (fun e W' => ∃ v, e = .returned (.int .u64 v) ∧ NextIs f first v ∧ Below W.heap.size W W') := by
  have HM := hide h
  have HF := hide hf
  have HQ := hide hq
  have HHas := hide (show ∀ q, Maps.has D (.int .u64 q) = true → ∃ s, f q = some s from fun q hh => by
    cases hfq : f q with
    | some s => exact ⟨s, rfl⟩
    | none => rw [hv.none_ q hfq] at hh; cases hh)
  have HHas2 := hide (show ∀ q s, f q = some s → Maps.has D (.int .u64 q) = true from fun q s hh => (hv.some_ q s hh).1)
  clear h hv hf hq
  go_enter Tryz.func29, Tryz.ntmps29
  go_wp2_with (at_range; refine wpList_range_own _ rfl _ 69 rfl 47 97 (Maps.int_keyed Tryz.underlying47) Tryz.underlying69 shR bm n D rfl HM.out ?_; intro w0 hrg0 hg0 hs0)
  have HR0 := hide hrg0
  have HB0 := hide (show Below W.heap.size W w0 from (Below.refl _ _).grown hg0 (Nat.le_refl _) (fun k hk => by cases hk))
  clear hrg0 hg0 hs0
  go_frame
  go_loopw [1] (fun x wr => ∃ left cnt v, x = .int .u64 v ∧ wr.ranges Tryz.prog 47 shR bm W.heap.size n D left cnt ∧ (∀ kl, left kl = true → Maps.has D kl = true) ∧ Below W.heap.size W wr ∧ first ≤ v ∧ v < 18446744073709551616 ∧ (∀ q s, f q = some s → left (.int .u64 q) = false → q + 1 ≤ v) ∧ (v = first ∨ ∃ q s, f q = some s ∧ v = q + 1)) (fun _ wr => wr.rangeLeft bm W.heap.size)
  case atStart => exact ⟨_, _, first, rfl, HR0.out, fun kl h => h, HB0.out, Int.le_refl _, HF.out.2, fun q s hs hl => (by rw [HHas2.out q s hs] at hl; cases hl), .inl rfl⟩
  case round =>
    obtain ⟨left, cnt, v, rfl, hrg, hlf, hb, hv0, hv1, hvq, hve⟩ := hrel
    have HVq := hide hvq
    have HVe := hide hve
    have HB := hide hb
    have HR := hide hrg
    have HL := hide hlf
    have HV := hide (show first ≤ v ∧ v < 18446744073709551616 from ⟨hv0, hv1⟩)
    clear hv0 hv1 hvq hve hb hrg hlf
    go_wp2_with (at_next; refine wpList_next_ranges _ rfl _ rfl 47 (Maps.int_keyed Tryz.underlying47) shR (Value.int .u64) Sh.val (fun key kl hkey => by obtain ⟨x, rfl, _⟩ := Maps.keyOf_int_inv Tryz.underlying47 hkey; exact ⟨x, rfl⟩) (fun v y hv => shR_inv v y hv) bm W.heap.size n D left cnt rfl HR.out ?_ ?_)
    · intro _ hno
      have HNo := hide hno
      clear hno
      go_wp2
      go_ret
      exact ⟨v, rfl, ⟨HV.out.1, HV.out.2, fun q s hs => HVq.out q s hs (HNo.out _), HVe.out⟩, HB.out⟩
    · intro x c kl ya yb w1 cnt1 hkey hlk hv2 hat hrg1 hlt hg1 hs1 hen
      obtain ⟨x', ex, rfl, hwx⟩ := Maps.keyOf_int_inv Tryz.underlying47 hkey
      cases ex
      obtain ⟨s0, hs0⟩ := HHas.out x (HL.out _ hlk)
      have HX := hide hs0
      have hx0 := HQ.out x s0 hs0
      have hwr : IntKind.u64.wrap (x + 1) = x + 1 := by rw [IntKind.wrap_u64]; omega
      have HR1 := hide hrg1
      have HB1 := hide (HB.out.grown hg1 HB.out.size (fun k hk => by cases hk; exact Nat.le_refl _))
      have HLt := hide (show w1.rangeLeft bm W.heap.size < wr.rangeLeft bm W.heap.size by rw [hrg1.left_eq, HR.out.left_eq]; exact hlt)
      have HX0 := hide hx0
      clear hkey hlk hv2 hat hrg1 hlt hg1 hs1 hwx hs0 hx0
      go_wp2
      have hvv := HV.out
      have hxx := HX0.out
      refine ⟨⟨_, _, _, rfl, HR1.out, fun z hz => HL.out z (by rw [Bool.and_eq_true] at hz; exact hz.1), HB1.out, by omega, by omega, fun q s hs hl => ?_, ?_⟩, HLt.out⟩
      · rw [Bool.and_eq_false_iff] at hl
        rcases hl with hl | hl
        · have := HVq.out q s hs hl
          omega
        · have hl : (Lit.int .u64 q).sameKey (.int .u64 x) = true := by simpa using hl
          have e : q = x := by simpa [Lit.sameKey] using hl
          omega
      · rcases HVe.out with e | ⟨q, s, hq, e⟩
        · by_cases h : v ≤ x + 1
          · exact .inr ⟨x, s0, HX.out, by omega⟩
          · exact .inl (by omega)
        · by_cases h : v ≤ x + 1
          · exact .inr ⟨x, s0, HX.out, by omega⟩
          · exact .inr ⟨q, s, hq, by omega⟩
/-- behind Open: a log that is new, and texts -/
def Open2Res (bd : Nat) (h : Hd) (at_ : Int) (f : Int → Option Sh) (ts : List ByteArray) (W : World) (e : Ending) (W' : World) : Prop :=
  ∃ bl v nx, e = .returned (.tuple #[.pointer (some ⟨bl, 0, none⟩), v, .int .i64 0]) ∧ W'.ownsRow W.heap.size 9 1 v ts.length (strs ts) ∧ Lg W' bl bd h at_ nx h.sec ∧ NextIs f h.first nx ∧ W.heap.size ≤ bl ∧ Below W.heap.size W W'
set_option maxHeartbeats 2000000 in
set_option maxRecDepth 20000 in
theorem walopen2_any (bd n : Nat) (F : Nat → Prop) (c : Nat → List Int) (m : Nat) (xs : Nat → Option Hd) (h : Hd) (ia : Nat) (W : World) (hd : Ds W bd n F c m) (hm : m ≤ 100000)
    (hx : ∀ i, i < 2 → HdIs (c i) (xs i)) (hb : bestTo xs 2 = some (h, ia)) (hs1 : 1 ≤ h.sec) (hs : h.sec < 60000) (hn : 2 + h.sec ≤ n) (ys : Nat → Option Sh) (hy : ∀ i, i < h.sec → ShIs (c (2 + i)) (ys i)) (ht : Tab W) (hgd : h.good)
    (t : Nat → Sh) (k : Nat) (hk : k ≤ 100000) (hfk : h.first + k < 18446744073709551616) (hT : ∀ i : Nat, i < k → fTo ys h.sec h.sec (h.first + i) = some (t i)) (hE : fTo ys h.sec h.sec (h.first + k) = none) (hq : ∀ q s, fTo ys h.sec h.sec q = some s → 0 ≤ q ∧ q + 1 < 18446744073709551616) :
    Calls Tryz.prog 17 #[.pointer (some ⟨bd, 0, none⟩)] W (Open2Res bd h ia (fTo ys h.sec h.sec) (roll t k).1 W) := by
  have HGt := hide (show ∀ i, i < k → (t i).good from fun i hi => by
    obtain ⟨j, h1, h2, _⟩ := fTo_mem _ _ _ _ _ (hT i hi)
    have h3 := hy j h1
    rw [h2] at h3
    exact h3.2.1)
  have HV := hide (shTo_view ys h.sec h.sec)
  have HTx := hide (show ∀ (bm nn : Nat) (w : World), w.ownsMap Tryz.prog 47 shR bm nn (shTo ys h.sec h.sec) → Calls Tryz.prog 30 #[.map (some bm), .int .u64 h.first] w (TextsRes (roll t k).1 w) from
    fun bm nn w ho => texts_any bm nn _ _ t k h.first w ho HV.out hgd.2.1.1 hfk hk HGt.out hT hE)
  have HNx := hide (show ∀ (bm nn : Nat) (w : World), w.ownsMap Tryz.prog 47 shR bm nn (shTo ys h.sec h.sec) → Calls Tryz.prog 29 #[.map (some bm), .int .u64 h.first] w (fun e W' => ∃ v, e = .returned (.int .u64 v) ∧ NextIs (fTo ys h.sec h.sec) h.first v ∧ Below w.heap.size w W') from
    fun bm nn w ho => next2_any bm nn _ _ h.first w ho HV.out hgd.2.1 hq)
  have HRd := fun W' (hb : Below W.heap.size W W') => hide (readall_any bd n F c m h.sec ys W' (hd.below hb) hm hs1 hs hn hy (ht.below hb))
  have HLen := fun (W' : World) (hb : Below W.heap.size W W') => hide (show Calls Tryz.prog 22 #[.pointer (some ⟨bd, 0, none⟩)] W' (fun e w' => e = .returned (.int .i64 n) ∧ W' = w') from by
    obtain ⟨A0, k0, hln⟩ := (hd.below hb).len
    exact dlen_any bd n k0 A0 W' hln)
  have HCo := hide (show Calls Tryz.prog 27 #[.pointer (some ⟨bd, 0, none⟩)] W (fun e W' => e = .returned (.tuple #[h.val, .int .i64 (ia : Int), .int .i64 0]) ∧ Below W.heap.size W W') from by
    have := hd.counts hm (by omega) xs hx ht
    unfold CountsRes at this
    rw [hb] at this
    exact this)
  clear hd ht hx hy hb hgd hT hE hq hfk hk HGt HV
  generalize shTo ys h.sec h.sec = D at *
  generalize fTo ys h.sec h.sec = f at *
  generalize (roll t k).1 = ts at *
  go_enter Tryz.func17, Tryz.ntmps17
  go_wp2_with fail
  refine HCo.out.mono ?_
  rintro e w1 ⟨rfl, hb⟩
  have HB1 := hide hb
  have hb1sz := hb.size
  clear hb
  unfold Hd.val
  have hx2 := Whole.new w1 h.cells 66
  have hb2 : Below w1.heap.size w1 (w1.alloc (.cells h.cells.toArray 66)) := (Below.refl _ _).alloc (Nat.le_refl _) _
  change Whole (w1.alloc (.cells h.cells.toArray 66)) _ _ _ at hx2
  have HX2 := hide hx2
  have HB2 := hide (HB1.out.trans (hb2.mono HB1.out.size))
  clear hx2 hb2 HB1
  go_upto_region 6 with fail
  change Code.wp _ _ _ _ (w1.alloc (.cells h.cells.toArray 66))
  generalize w1.alloc (.cells h.cells.toArray 66) = w2 at *
  generalize w1.heap.size = b5 at *
  have q2 : w2.cell? ⟨b5, 2, none⟩ = some (.int .i64 (h.sec : Int)) := HX2.out.cell 2
  have hia : ¬ (ia : Int) < 0 := by omega
  have hs1' : decide ((h.sec : Int) < 1) = false := by simp; omega
  have hs2' : decide ((n : Int) < 2 + (h.sec : Int)) = false := by simp; omega
  go_quiet (first | (go_at_call 22; refine Calls.quiet_of_same ((HLen _ (below_drewN HB2.out _)).out.mono fun _ _ h => ⟨h.1, h.2.symm⟩)))
  have HB3 := hide (below_drewN HB2.out nq)
  have HX3 := hide (HX2.out.below (below_drewN (Below.refl w2.heap.size w2) nq) HX2.out.lt)
  clear HB2 HX2 q2
  generalize w2.drewN nq = w3 at *
  have q2 : w3.cell? ⟨b5, 2, none⟩ = some (.int .i64 (h.sec : Int)) := HX3.out.cell 2
  go_wp2_with fail
  refine (HRd w3 HB3.out).out.mono ?_
  rintro e w4 ⟨bm, rfl, hmp, hbm, hb⟩
  have HM4 := hide hmp
  have HB4 := hide (HB3.out.trans (hb.mono HB3.out.size))
  have HX4 := hide (HX3.out.below hb HX3.out.lt)
  clear hmp hb HX3 HB3 q2
  go_upto_region 11 with fail
  have hbl := HX4.out.lt
  refine wp_region_held_drew (S := (fun w' => Below w4.heap.size w4 w')) (by kernel_rfl) ((Below.refl _ _).drew) (fun hHeld => ?_)
  have HBd := hide (HB4.out.trans (hHeld.mono HB4.out.size))
  have HMd := hide (HM4.out.below hHeld)
  generalize w4.drew = wd at *
  refine wpAnyH_take (i := 0) (v := ?vq1) rfl (by kernel_rfl) (by kernel_rfl) (by kernel_rfl) (fun _ _ _ h => h) (Or.inl ⟨by rfl, ?hq1⟩) (by assumption) ?rq1
  case hq1 => (intro wq hSw; go_simp; (try with_reducible rfl))
  try simp only [Act.put, List.getElem_toArray, List.getElem_cons_zero, List.setIfInBounds_toArray, List.set_cons_zero, List.set_cons_succ]
  refine wpAnyH_take (i := 1) (v := ?vq2) rfl (by kernel_rfl) (by kernel_rfl) (by kernel_rfl) (fun _ _ _ h => h) (Or.inl ⟨by rfl, ?hq2⟩) (by assumption) ?rq2
  case hq2 => (intro wq hSw; have hX := HX4.out.below hSw hbl; have e0 := hX.cell 0; have e1 := hX.cell 1; have e2 := hX.cell 2; have e3 := hX.cell 3; unfold Hd.cells at e0 e1 e2 e3; simp only [List.getElem?_cons_zero, List.getElem?_cons_succ] at e0 e1 e2 e3; go_simp; (try with_reducible rfl))
  try simp only [Act.put, List.getElem_toArray, List.getElem_cons_zero, List.getElem_cons_succ, List.setIfInBounds_toArray, List.set_cons_zero, List.set_cons_succ]
  refine wpAnyH_take (i := 2) (v := ?vq3) rfl (by kernel_rfl) (by kernel_rfl) (by kernel_rfl) (fun _ _ _ h => h) (Or.inl ⟨by rfl, ?hq3⟩) (by assumption) ?rq3
  case hq3 => (intro wq hSw; go_simp; (try with_reducible rfl))
  try simp only [Act.put, List.getElem_toArray, List.getElem_cons_zero, List.getElem_cons_succ, List.setIfInBounds_toArray, List.set_cons_zero, List.set_cons_succ]
  refine wpAnyH_take (i := 3) (v := ?vq4) rfl (by kernel_rfl) (by kernel_rfl) (by kernel_rfl) (fun _ _ _ h => h) (Or.inl ⟨by rfl, ?hq4⟩) (by assumption) ?rq4
  case hq4 => (intro wq hSw; go_simp; (try with_reducible rfl))
  try simp only [Act.put, List.getElem_toArray, List.getElem_cons_zero, List.getElem_cons_succ, List.setIfInBounds_toArray, List.set_cons_zero, List.set_cons_succ]
  refine wpAnyH_take (i := 4) (v := ?vq5) rfl (by kernel_rfl) (by kernel_rfl) (by kernel_rfl) (fun _ _ _ h => h) (Or.inl ⟨by rfl, ?hq5⟩) (by assumption) ?rq5
  case hq5 => (intro wq hSw; go_simp; (try with_reducible rfl))
  try simp only [Act.put, List.getElem_toArray, List.getElem_cons_zero, List.getElem_cons_succ, List.setIfInBounds_toArray, List.set_cons_zero, List.set_cons_succ]
  refine wpAnyH_take (i := 5) (v := ?vq6) rfl (by kernel_rfl) (by kernel_rfl) (by kernel_rfl) (fun _ _ _ h => h) (Or.inl ⟨by rfl, ?hq6⟩) (by assumption) ?rq6
  case hq6 => (intro wq hSw; have hX := HX4.out.below hSw hbl; have e0 := hX.cell 0; have e1 := hX.cell 1; have e2 := hX.cell 2; have e3 := hX.cell 3; unfold Hd.cells at e0 e1 e2 e3; simp only [List.getElem?_cons_zero, List.getElem?_cons_succ] at e0 e1 e2 e3; go_simp; (try with_reducible rfl))
  try simp only [Act.put, List.getElem_toArray, List.getElem_cons_zero, List.getElem_cons_succ, List.setIfInBounds_toArray, List.set_cons_zero, List.set_cons_succ]
  refine wpAnyH_take (i := 7) (v := ?vq7) rfl (by kernel_rfl) (by kernel_rfl) (by kernel_rfl) (fun _ _ _ h => h) (Or.inl ⟨by rfl, ?hq7⟩) (by assumption) ?rq7
  case hq7 => (intro wq hSw; go_simp; (try with_reducible rfl))
  try simp only [Act.put, List.getElem_toArray, List.getElem_cons_zero, List.getElem_cons_succ, List.setIfInBounds_toArray, List.set_cons_zero, List.set_cons_succ]
  refine wpAnyH_take (i := 8) (v := ?vq8) rfl (by kernel_rfl) (by kernel_rfl) (by kernel_rfl) (fun _ _ _ h => h) (Or.inl ⟨by rfl, ?hq8⟩) (by assumption) ?rq8
  case hq8 => (intro wq hSw; have hX := HX4.out.below hSw hbl; have e0 := hX.cell 0; have e1 := hX.cell 1; have e2 := hX.cell 2; have e3 := hX.cell 3; unfold Hd.cells at e0 e1 e2 e3; simp only [List.getElem?_cons_zero, List.getElem?_cons_succ] at e0 e1 e2 e3; go_simp; (try with_reducible rfl))
  try simp only [Act.put, List.getElem_toArray, List.getElem_cons_zero, List.getElem_cons_succ, List.setIfInBounds_toArray, List.set_cons_zero, List.set_cons_succ]
  refine wpAnyH_take (i := 11) (v := ?vq9) rfl (by kernel_rfl) (by kernel_rfl) (by kernel_rfl) (fun _ _ _ h => h) (Or.inl ⟨by rfl, ?hq9⟩) (by assumption) ?rq9
  case hq9 => (intro wq hSw; go_simp; (try with_reducible rfl))
  try simp only [Act.put, List.getElem_toArray, List.getElem_cons_zero, List.getElem_cons_succ, List.setIfInBounds_toArray, List.set_cons_zero, List.set_cons_succ]
  refine wpAnyH_take (i := 12) (v := ?vq10) rfl (by kernel_rfl) (by kernel_rfl) (by kernel_rfl) (fun _ _ _ h => h) (Or.inl ⟨by rfl, ?hq10⟩) (by assumption) ?rq10
  case hq10 => (intro wq hSw; go_simp; (try with_reducible rfl))
  try simp only [Act.put, List.getElem_toArray, List.getElem_cons_zero, List.getElem_cons_succ, List.setIfInBounds_toArray, List.set_cons_zero, List.set_cons_succ]
  refine wpAnyH_take (i := 13) (v := ?vq11) rfl (by kernel_rfl) (by kernel_rfl) (by kernel_rfl) (fun _ _ _ h => h) (Or.inl ⟨by rfl, ?hq11⟩) (by assumption) ?rq11
  case hq11 => (intro wq hSw; have hX := HX4.out.below hSw hbl; have e0 := hX.cell 0; have e1 := hX.cell 1; have e2 := hX.cell 2; have e3 := hX.cell 3; unfold Hd.cells at e0 e1 e2 e3; simp only [List.getElem?_cons_zero, List.getElem?_cons_succ] at e0 e1 e2 e3; go_simp; (try with_reducible rfl))
  try simp only [Act.put, List.getElem_toArray, List.getElem_cons_zero, List.getElem_cons_succ, List.setIfInBounds_toArray, List.set_cons_zero, List.set_cons_succ]
  refine wpAnyH_ready (rs := [6]) (by kernel_rfl) (by simp) ?_
  refine AllReadyH.cons (o := _) rfl (fun K hK => ?_) ?_
  · skip
    go_simp
    obtain ⟨nn, hnn, hown⟩ := HMd.out
    refine (HNx.out bm nn wd hown).mono ?_
    rintro e wn ⟨vn, rfl, hnx, hb⟩
    have HNi := hide hnx
    have HBn := hide (HBd.out.trans (hb.mono HBd.out.size))
    have hHn := hHeld.trans (hb.mono hHeld.size)
    have HMn := hide (HMd.out.below hb)
    clear hnx hb hown
    refine hK.out _ _ (hHn) (fun hHeld => ?_)
    clear hK K HBd HMd
    try simp only [Act.put, List.getElem_toArray, List.getElem_cons_zero, List.getElem_cons_succ, List.setIfInBounds_toArray, List.set_cons_zero, List.set_cons_succ]
    refine wpAnyH_take (i := 9) (v := ?vq12) rfl (by kernel_rfl) (by kernel_rfl) (by kernel_rfl) (fun _ _ _ h => h) (Or.inl ⟨by rfl, ?hq12⟩) (by assumption) ?rq12
    case hq12 => (intro wq hSw; go_simp; (try with_reducible rfl))
    try simp only [Act.put, List.getElem_toArray, List.getElem_cons_zero, List.getElem_cons_succ, List.setIfInBounds_toArray, List.set_cons_zero, List.set_cons_succ]
    refine wpAnyH_ready (rs := [10, 14]) (by kernel_rfl) (by simp) ?_
    refine AllReadyH.cons (o := _) rfl (fun K hK => ?_) ?_
    · skip
      go_simp
      have hbx := Whole.new wn [.pointer (some ⟨bd, 0, none⟩), .int .u64 h.gen, .int .u64 h.first, .int .i64 (h.sec : Int), .string h.note, .int .i64 (ia : Int), .int .u64 vn, .int .i64 (h.sec : Int), .bool false] 74
      have hbw := (Below.refl wn.heap.size wn).alloc (Nat.le_refl _) (.cells #[.pointer (some ⟨bd, 0, none⟩), .int .u64 h.gen, .int .u64 h.first, .int .i64 (h.sec : Int), .string h.note, .int .i64 (ia : Int), .int .u64 vn, .int .i64 (h.sec : Int), .bool false] 74)
      have HBx := hide (HBn.out.trans (hbw.mono HBn.out.size))
      have hHx := hHeld.trans (hbw.mono hHeld.size)
      have HMx := hide (HMn.out.below hbw)
      change Whole (wn.alloc (.cells #[.pointer (some ⟨bd, 0, none⟩), .int .u64 h.gen, .int .u64 h.first, .int .i64 (h.sec : Int), .string h.note, .int .i64 (ia : Int), .int .u64 vn, .int .i64 (h.sec : Int), .bool false] 74)) _ _ _ at hbx
      have HLx := hide (show Lg _ _ bd h ia vn h.sec from hbx)
      have hbls : W.heap.size ≤ wn.heap.size := HBn.out.size
      refine hK.out _ _ (hHx) (fun hHeld => ?_)
      clear hK K hbw hbx
      try simp only [Act.put, List.getElem_toArray, List.getElem_cons_zero, List.getElem_cons_succ, List.setIfInBounds_toArray, List.set_cons_zero, List.set_cons_succ]
      generalize wn.alloc (.cells #[.pointer (some ⟨bd, 0, none⟩), .int .u64 h.gen, .int .u64 h.first, .int .i64 (h.sec : Int), .string h.note, .int .i64 (ia : Int), .int .u64 vn, .int .i64 (h.sec : Int), .bool false] 74) = wx at *
      generalize wn.heap.size = bl at *
      refine wpAnyH_ready (rs := [14]) (by kernel_rfl) (by simp) ?_
      refine AllReadyH.cons (o := _) rfl (fun K hK => ?_) ?_
      · skip
        go_simp
        obtain ⟨nn, hnn, hown⟩ := HMx.out
        refine (HTx.out bm nn wx hown).mono ?_
        rintro e wt ⟨vt, rfl, hot, hb⟩
        have HBt := hide (HBx.out.trans (hb.mono HBx.out.size))
        have HOt := hide (owns_base hot (fun g hg => Nat.le_trans (Nat.le_succ_of_le HBx.out.size) (hot.lt g hg).1))
        have hHt := hHeld.trans (hb.mono hHeld.size)
        have HLt := hide (HLx.out.below hb)
        refine hK.out _ _ (hHt) (fun hHeld => ?_)
        clear hK K hb hown hot
        try simp only [Act.put, List.getElem_toArray, List.getElem_cons_zero, List.getElem_cons_succ, List.setIfInBounds_toArray, List.set_cons_zero, List.set_cons_succ]
        refine wpAnyH_take (i := 15) (v := ?vq13) rfl (by kernel_rfl) (by kernel_rfl) (by kernel_rfl) (fun _ _ _ h => h) (Or.inl ⟨by rfl, ?hq13⟩) (by assumption) ?rq13
        case hq13 => (intro wq hSw; go_simp; (try with_reducible rfl))
        try simp only [Act.put, List.getElem_toArray, List.getElem_cons_zero, List.getElem_cons_succ, List.setIfInBounds_toArray, List.set_cons_zero, List.set_cons_succ]
        refine wpAnyH_take (i := 16) (v := ?vq14) rfl (by kernel_rfl) (by kernel_rfl) (by kernel_rfl) (fun _ _ _ h => h) (Or.inl ⟨by rfl, ?hq14⟩) (by assumption) ?rq14
        case hq14 => (intro wq hSw; go_simp; (try with_reducible rfl))
        try simp only [Act.put, List.getElem_toArray, List.getElem_cons_zero, List.getElem_cons_succ, List.setIfInBounds_toArray, List.set_cons_zero, List.set_cons_succ]
        refine wpAnyH_take (i := 17) (v := ?vq15) rfl (by kernel_rfl) (by kernel_rfl) (by kernel_rfl) (fun _ _ _ h => h) (Or.inl ⟨by rfl, ?hq15⟩) (by assumption) ?rq15
        case hq15 => (intro wq hSw; go_simp; (try with_reducible rfl))
        try simp only [Act.put, List.getElem_toArray, List.getElem_cons_zero, List.getElem_cons_succ, List.setIfInBounds_toArray, List.set_cons_zero, List.set_cons_succ]
        refine wpAnyH_done (by kernel_rfl) ?_ _
        go_wp2_with fail
        exact bodyPost_ret (v := .tuple #[.pointer (some ⟨bl, 0, none⟩), vt, .int .i64 0]) (by simp [results, Tryz.results17, go_sem]) rfl ⟨_, _, _, rfl, HOt.out, HLt.out, HNi.out, hbls, HBt.out⟩
      exact AllReadyH.nil
    refine AllReadyH.cons (o := _) rfl (fun K hK => ?_) ?_
    · skip
      go_simp
      obtain ⟨nn, hnn, hown⟩ := HMn.out
      refine (HTx.out bm nn wn hown).mono ?_
      rintro e wt ⟨vt, rfl, hot, hb⟩
      have HBt := hide (HBn.out.trans (hb.mono HBn.out.size))
      have HOt := hide (owns_base hot (fun g hg => Nat.le_trans (Nat.le_succ_of_le HBn.out.size) (hot.lt g hg).1))
      have hHt := hHeld.trans (hb.mono hHeld.size)
      have HMt := hide (HMn.out.below hb)
      refine hK.out _ _ (hHt) (fun hHeld => ?_)
      clear hK K hb hown hot
      try simp only [Act.put, List.getElem_toArray, List.getElem_cons_zero, List.getElem_cons_succ, List.setIfInBounds_toArray, List.set_cons_zero, List.set_cons_succ]
      refine wpAnyH_ready (rs := [10]) (by kernel_rfl) (by simp) ?_
      refine AllReadyH.cons (o := _) rfl (fun K hK => ?_) ?_
      · skip
        go_simp
        have hbx := Whole.new wt [.pointer (some ⟨bd, 0, none⟩), .int .u64 h.gen, .int .u64 h.first, .int .i64 (h.sec : Int), .string h.note, .int .i64 (ia : Int), .int .u64 vn, .int .i64 (h.sec : Int), .bool false] 74
        have hbw := (Below.refl wt.heap.size wt).alloc (Nat.le_refl _) (.cells #[.pointer (some ⟨bd, 0, none⟩), .int .u64 h.gen, .int .u64 h.first, .int .i64 (h.sec : Int), .string h.note, .int .i64 (ia : Int), .int .u64 vn, .int .i64 (h.sec : Int), .bool false] 74)
        have HBx := hide (HBt.out.trans (hbw.mono HBt.out.size))
        have hHx := hHeld.trans (hbw.mono hHeld.size)
        have HMx := hide (HMt.out.below hbw)
        change Whole (wt.alloc (.cells #[.pointer (some ⟨bd, 0, none⟩), .int .u64 h.gen, .int .u64 h.first, .int .i64 (h.sec : Int), .string h.note, .int .i64 (ia : Int), .int .u64 vn, .int .i64 (h.sec : Int), .bool false] 74)) _ _ _ at hbx
        have HLx := hide (show Lg _ _ bd h ia vn h.sec from hbx)
        have HOx := hide (show (wt.alloc (.cells #[.pointer (some ⟨bd, 0, none⟩), .int .u64 h.gen, .int .u64 h.first, .int .i64 (h.sec : Int), .string h.note, .int .i64 (ia : Int), .int .u64 vn, .int .i64 (h.sec : Int), .bool false] 74)).ownsRow _ _ _ _ _ _ from HOt.out.alloc _)
        have hbls : W.heap.size ≤ wt.heap.size := HBt.out.size
        refine hK.out _ _ (hHx) (fun hHeld => ?_)
        clear hK K hbw hbx
        try simp only [Act.put, List.getElem_toArray, List.getElem_cons_zero, List.getElem_cons_succ, List.setIfInBounds_toArray, List.set_cons_zero, List.set_cons_succ]
        generalize wt.alloc (.cells #[.pointer (some ⟨bd, 0, none⟩), .int .u64 h.gen, .int .u64 h.first, .int .i64 (h.sec : Int), .string h.note, .int .i64 (ia : Int), .int .u64 vn, .int .i64 (h.sec : Int), .bool false] 74) = wx at *
        generalize wt.heap.size = bl at *
        refine wpAnyH_take (i := 15) (v := ?vq16) rfl (by kernel_rfl) (by kernel_rfl) (by kernel_rfl) (fun _ _ _ h => h) (Or.inl ⟨by rfl, ?hq16⟩) (by assumption) ?rq16
        case hq16 => (intro wq hSw; go_simp; (try with_reducible rfl))
        try simp only [Act.put, List.getElem_toArray, List.getElem_cons_zero, List.getElem_cons_succ, List.setIfInBounds_toArray, List.set_cons_zero, List.set_cons_succ]
        refine wpAnyH_take (i := 16) (v := ?vq17) rfl (by kernel_rfl) (by kernel_rfl) (by kernel_rfl) (fun _ _ _ h => h) (Or.inl ⟨by rfl, ?hq17⟩) (by assumption) ?rq17
        case hq17 => (intro wq hSw; go_simp; (try with_reducible rfl))
        try simp only [Act.put, List.getElem_toArray, List.getElem_cons_zero, List.getElem_cons_succ, List.setIfInBounds_toArray, List.set_cons_zero, List.set_cons_succ]
        refine wpAnyH_take (i := 17) (v := ?vq18) rfl (by kernel_rfl) (by kernel_rfl) (by kernel_rfl) (fun _ _ _ h => h) (Or.inl ⟨by rfl, ?hq18⟩) (by assumption) ?rq18
        case hq18 => (intro wq hSw; go_simp; (try with_reducible rfl))
        try simp only [Act.put, List.getElem_toArray, List.getElem_cons_zero, List.getElem_cons_succ, List.setIfInBounds_toArray, List.set_cons_zero, List.set_cons_succ]
        refine wpAnyH_done (by kernel_rfl) ?_ _
        go_wp2_with fail
        exact bodyPost_ret (v := .tuple #[.pointer (some ⟨bl, 0, none⟩), vt, .int .i64 0]) (by simp [results, Tryz.results17, go_sem]) rfl ⟨_, _, _, rfl, HOx.out, HLx.out, HNi.out, hbls, HBx.out⟩
      exact AllReadyH.nil
    exact AllReadyH.nil
  exact AllReadyH.nil
end Go.Proofs.YtccnihdkjcjeoaaGreatDoor
