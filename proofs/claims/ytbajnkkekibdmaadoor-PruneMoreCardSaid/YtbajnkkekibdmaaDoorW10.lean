/- Words for the walk of Keep: its marks at the return, its row of bools, the map of the names that were met. -/
import Derived.Test.YtbajnkkekibdmaaDoorW9
import Derived.Maps.StringElems
namespace Go.Proofs.YtbajnkkekibdmaaDoor
open Go.RowKit Go.Shelf Go.Lib

/-- the marks of ranges that have ended -/
def marks (Ds : List Nat) : List Deferred := Ds.map fun D => { target := .collected D, args := #[] }
/-- they stand in memory, each once -/
structure Marked (w : World) (B : Nat) (Ds : List Nat) : Prop where
  nodup : Ds.Nodup
  low : ∀ D ∈ Ds, B ≤ D
  at_ : ∀ D ∈ Ds, w.heap[D]? = some (.deferred (some []))
theorem Marked.nil (w : World) (B : Nat) : Marked w B [] := ⟨List.nodup_nil, by simp, by simp⟩
theorem leave_marks {P : Program} {n : Nat} {fn : Func} {tmps : Array Value} {R : Ending → World → Prop} {B : Nat} : ∀ (Ds : List Nat) (w : World), Marked w B Ds → B ≤ w.heap.size →
    (∀ w', Below B w w' → (∀ k, k ∉ Ds → w'.heap[k]? = w.heap[k]?) → ∃ v, (results fn tmps).run P w' = .ok v w' ∧ R (.returned v) w') → LeavesInM Fence.wide n P fn tmps R (marks Ds) .returning w
  | [], w, _, _, h => h w (Below.refl _ _) (fun _ _ => rfl)
  | D :: Ds, w, hm, hB, h => by
    obtain ⟨hD, hnd⟩ := List.nodup_cons.1 hm.nodup
    have hat := hm.at_ D (by simp)
    have hlt : D < w.heap.size := (Array.getElem?_eq_some_iff.1 hat).1
    refine ⟨by simp, .inl ⟨D, _, rfl, run_takeDeferred hat, ?_⟩⟩
    have hb : Below B w (w.putObj D (.deferred none)) := below_put w _ (hm.low D (by simp)) hB
    refine leave_marks Ds _ ⟨hnd, fun E hE => hm.low E (by simp [hE]), fun E hE => ?_⟩ (by simp; exact hB) fun w' h1 h2 => h w' (hb.trans h1) fun k hk => ?_
    · exact (World.putObj_heap_other (fun e => hD (by rw [← e]; exact hE))).trans (hm.at_ E (by simp [hE]))
    · simp only [List.mem_cons, not_or] at hk
      exact (h2 k hk.2).trans (World.putObj_heap_other hk.1)

/-- bools in cells -/
def bools (l : List Bool) : List Value := l.map Value.bool
theorem bools_len (l : List Bool) : (bools l).length = l.length := by simp [bools]
/-- a block that is known whole -/
def Whole (w : World) (b : Nat) (t : TypeId) (cs : List Value) : Prop := w.heap[b]? = some (.cells cs.toArray t (0, 0))
section
variable {w w' : World} {b : Nat} {t : TypeId} {cs : List Value}
theorem Whole.lt (h : Whole w b t cs) : b < w.heap.size := (Array.getElem?_eq_some_iff.1 h).1
theorem Whole.cell (h : Whole w b t cs) (i : Nat) : w.cell? ⟨b, i, none⟩ = cs[i]? := by
  unfold Whole at h
  simp [World.cell?, h]
theorem Whole.frozen (h : Whole w b t cs) (i : Nat) : w.frozen? ⟨b, i, none⟩ = false := by
  unfold Whole at h
  simp [World.frozen?, h]
theorem Whole.of_block (h : Whole w b t cs) (hb : w'.heap[b]? = w.heap[b]?) : Whole w' b t cs := hb.trans h
theorem Whole.below {B : Nat} (h : Whole w b t cs) (hb : Below B w w') (hB : b < B) : Whole w' b t cs := h.of_block (hb.block b hB)
theorem Whole.new (w : World) (cs : List Value) (t : TypeId) : Whole (w.alloc (.cells cs.toArray t)) w.heap.size t cs := heap_alloc_new w _
theorem Whole.set_ (h : Whole w b t cs) (i : Nat) (v : Value) : Whole (w.setCell ⟨b, i, none⟩ v) b t (cs.set i v) := by
  unfold Whole at h ⊢
  simp only [World.setCell, Array.getElem?_modify, if_true, h, Option.map_some]
  simp
end

/-- the map of the names that were met -/
def NamesIn (D : DataW Unit) (ns : List Pl.Bs) : Prop := Maps.IsMap D ∧ ∀ q : Pl.Bs, D.atKey (.string q) (.lit (.int .i64 0)) = .lit (.int .i64 (if q ∈ ns then 1 else 0))
theorem NamesIn.start : NamesIn (.map []) [] := ⟨Maps.isMap_empty, fun q => by simp [DataW.atKey]⟩
theorem NamesIn.put {D : DataW Unit} {ns : List Pl.Bs} (h : NamesIn D ns) (q : Pl.Bs) : NamesIn (D.put (.string q) (.lit (.int .i64 1))) (ns ++ [q]) := by
  refine ⟨h.1.put _ _, fun r => ?_⟩
  by_cases e : r = q
  · subst e
    rw [Maps.atKey_put_same h.1 (by simp [WideAt.IsKeyLit])]
    simp
  · rw [Maps.atKey_put_other (by simp [e]), h.2 r]
    simp [e]
theorem NamesIn.val {D : DataW Unit} {ns : List Pl.Bs} (h : NamesIn D ns) {q : Pl.Bs} {c : Int} (hc : D.atKey (.string q) (.lit (.int .i64 0)) = .lit (.int .i64 c)) : c = if q ∈ ns then 1 else 0 := by
  rw [h.2] at hc
  simpa using hc.symm

/-- what the row of bools holds behind k rounds -/
def outTo (ns : List Pl.Bs) (p : Pl.Pol) (k : Nat) : List Bool := (Pl.base ns p).take k ++ List.replicate (ns.length - k) false
theorem outTo_len (ns : List Pl.Bs) (p : Pl.Pol) (k : Nat) (hk : k ≤ ns.length) : (outTo ns p k).length = ns.length := by simp [outTo, Pl.base]; omega
theorem outTo_end (ns : List Pl.Bs) (p : Pl.Pol) : outTo ns p ns.length = Pl.base ns p := by
  unfold outTo
  rw [List.take_of_length_le (by simp [Pl.base])]
  simp
theorem outTo_step (ns : List Pl.Bs) (p : Pl.Pol) (k : Nat) (hk : k < ns.length) : outTo ns p (k + 1) = (outTo ns p k).set k (!(Pl.has ns[k]) || p.pins.contains ns[k]) := by
  have hb : k < (Pl.base ns p).length := by simpa [Pl.base] using hk
  have e : (Pl.base ns p)[k] = (!(Pl.has ns[k]) || p.pins.contains ns[k]) := by simp [Pl.base]
  obtain ⟨r, hr⟩ : ∃ r, ns.length - k = r + 1 := ⟨ns.length - k - 1, by omega⟩
  unfold outTo
  rw [List.take_succ_eq_append_getElem hb, e, hr, show ns.length - (k + 1) = r from by omega, List.replicate_succ]
  rw [List.set_append_right _ _ (by simp [Pl.base]; omega)]
  have hz : k - ((Pl.base ns p).take k).length = 0 := by simp [Pl.base]; omega
  rw [hz]
  simp

/-- Keep's memory: the policy's box, the row of bools and the box of the slice over it -/
structure St (w : World) (B : Nat) (w0 : World) (P0 R O : Nat) (last : Int) (RA PA : Option Addr) (rl rc pl pc n : Nat) (bl : List Bool) : Prop where
  pol : Whole w P0 37 [.int .i64 last, .slice RA rl rc, .slice PA pl pc]
  row : Whole w R 4 (bools bl)
  out : Whole w O 31 [.slice (some ⟨R, 0, none⟩) n n]
  bel : Below w0.heap.size w0 w
  o1 : w0.heap.size ≤ P0
  o2 : P0 < R
  o3 : R < O
  o4 : O < B
  o5 : B ≤ w.heap.size
theorem St.below {w w' : World} {B : Nat} {w0 : World} {P0 R O : Nat} {last : Int} {RA PA : Option Addr} {rl rc pl pc n : Nat} {bl : List Bool} (h : St w B w0 P0 R O last RA PA rl rc pl pc n bl) (hb : Below B w w') : St w' B w0 P0 R O last RA PA rl rc pl pc n bl := by
  have h1 := h.o1; have h2 := h.o2; have h3 := h.o3; have h4 := h.o4
  exact ⟨h.pol.below hb (by omega), h.row.below hb (by omega), h.out.below hb (by omega), h.bel.trans (hb.mono (by omega)), h1, h2, h3, h4, Nat.le_trans h.o5 hb.size⟩
theorem St.store {w : World} {B : Nat} {w0 : World} {P0 R O : Nat} {last : Int} {RA PA : Option Addr} {rl rc pl pc n : Nat} {bl : List Bool} (h : St w B w0 P0 R O last RA PA rl rc pl pc n bl) (i : Nat) (x : Bool) :
    St (w.setCell ⟨R, i, none⟩ (.bool x)) B w0 P0 R O last RA PA rl rc pl pc n (bl.set i x) := by
  have h1 := h.o1; have h2 := h.o2; have h3 := h.o3; have h4 := h.o4
  refine ⟨h.pol.of_block (Below.heap_setCell w _ _ _ (by simp only; omega)), ?_, h.out.of_block (Below.heap_setCell w _ _ _ (by simp only; omega)), h.bel.setCell (by simp only; omega) _, h1, h2, h3, h4, by simpa [World.setCell] using h.o5⟩
  have := h.row.set_ i (.bool x)
  have e : bools (bl.set i x) = (bools bl).set i (.bool x) := by simp [bools, List.map_set]
  rw [e]; exact this
end Go.Proofs.YtbajnkkekibdmaaDoor
