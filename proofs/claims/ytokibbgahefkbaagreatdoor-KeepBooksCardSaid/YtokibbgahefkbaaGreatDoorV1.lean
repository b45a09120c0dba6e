/- Words for memory that the walks of this claim use: a slice whose cells are known; what a call may turn; a block known whole; an own row that grows. The plain law behind FenceFits: numbers and lists alone, no program. Walks of package pack: the widths, a number's bytes. Walks of package pack: the packer. Walks of package pack: New, Put, Text, Name, Bytes. Walks of package pack: Text, Name, Bytes. Walks of package pack: slices.Clone of bytes, Bytes, and what reads bytes: Of, Left, Err, End. Walks of package pack: the opener. Walks of package pack: Take, Text and Name of an opener. Walks of package pack: Take, Text and Name of an opener. Walks of package pack: Text, Take and Name of an opener. Walks of package pack: Take, Text, Name of an opener. A range over a function whose iterator keeps a state of its own in cells, and whose body always goes on: the law for the caller; marks at the return. -/
import Derived.Below
import Derived.Laws.OwnMore
import Derived.WalkKit
import Derived.OwnWalk
import Derived.Deep.Draws
import GoSem.Op.String
import Derived.Test.YtokibbgahefkbaaGreatDoorProg
import Derived.Tactics
import Derived.WalkCall
import Derived.IntWalk
import Derived.Deep.RegionHeld3
import Derived.Deep.AppendLies
import Derived.Shelf.Abstract
import Derived.Laws.IdiomStrings
import Derived.Lib.AppendStr
import Derived.Lib.SliceRun
import Derived.Laws.Bits64b
import Derived.Laws.BytesArg
import Derived.Deep.QuietTactic
import Derived.BigQuiet
import Derived.RangeFuncNested
import Derived.RangeFuncBound
import Derived.RangeFuncCalls
import Derived.RangeFuncLeaves
set_option linter.all false
namespace Go.Proofs.YtokibbgahefkbaaGreatDoor.Fe
open Go.RowKit

theorem hide {p : Prop} (h : p) : Hid p := h

/-- The cells from address A on are xs, and lie below block B (of no cells nothing is said: the slice may be nil). -/
def Mem (w : World) (B : Nat) (A : Option Addr) (xs : List Value) : Prop :=
  0 < xs.length → ∃ b off, A = some ⟨b, off, none⟩ ∧ b < B ∧ ∀ i (h : i < xs.length), w.cell? ⟨b, off + i, none⟩ = some xs[i]

section
variable {w w' : World} {B B' : Nat} {A : Option Addr} {xs : List Value}
theorem Mem.nil : Mem w B A [] := fun h => absurd h (by simp)
theorem Mem.keep (h : Mem w B A xs) (hk : ∀ b o, b < B → w'.cell? ⟨b, o, none⟩ = w.cell? ⟨b, o, none⟩) : Mem w' B A xs := fun hn => by
  obtain ⟨b, off, e, hb, hc⟩ := h hn
  exact ⟨b, off, e, hb, fun i hi => (hk b _ hb).trans (hc i hi)⟩
theorem Mem.below (h : Mem w B A xs) (hb : Below B w w') : Mem w' B A xs := h.keep fun b o hlt => hb.cell (p := ⟨b, o, none⟩) hlt
theorem Mem.mono (h : Mem w B A xs) (hB : B ≤ B') : Mem w B' A xs := fun hn => by
  obtain ⟨b, off, e, hb, hc⟩ := h hn
  exact ⟨b, off, e, by omega, hc⟩
/-- the cells that are asked for, where there is one -/
theorem Mem.get (h : Mem w B A xs) (hn : 0 < xs.length) : ∃ b off, A = some ⟨b, off, none⟩ ∧ b < B ∧ ∀ i (h : i < xs.length), w.cell? ⟨b, off + i, none⟩ = some xs[i] := h hn
theorem Mem.cut (h : Mem w B A xs) (n : Nat) : Mem w B A (xs.take n) := fun hn => by
  have hl : (xs.take n).length ≤ xs.length := by rw [List.length_take]; omega
  obtain ⟨b, off, e, hb, hc⟩ := h (by omega)
  refine ⟨b, off, e, hb, fun i hi => ?_⟩
  rw [hc i (by omega)]
  simp
end

theorem ret_bool {a b : Bool} (h : a = b) : Ending.returned (.bool a) = .returned (.bool b) := by rw [h]
theorem size_list (s : ByteArray) : s.data.toList.length = s.size := by rw [Array.length_toList]; rfl
theorem toList_eq (s : ByteArray) : s.toList = s.data.toList := ByteArray.toList_eq s
def strs (ss : List ByteArray) : List Value := ss.map Value.string

/-- Blocks outside F stay: w' is w with new blocks, and with writes to F's blocks alone. -/
structure Kp (F : Nat → Prop) (w w' : World) : Prop where
  os : w'.os = w.os
  tape : w'.tape = w.tape
  output : w'.output = w.output
  size : w.heap.size ≤ w'.heap.size
  block : ∀ k, k < w.heap.size → ¬ F k → w'.heap[k]? = w.heap[k]?
def NoF : Nat → Prop := fun _ => False
theorem Kp.refl (F : Nat → Prop) (w : World) : Kp F w w := ⟨rfl, rfl, rfl, Nat.le_refl _, fun _ _ _ => rfl⟩
theorem Kp.trans {F G : Nat → Prop} {a b c : World} (h : Kp F a b) (k : Kp G b c) (hg : ∀ i, G i → F i ∨ a.heap.size ≤ i) : Kp F a c :=
  ⟨k.os.trans h.os, k.tape.trans h.tape, k.output.trans h.output, Nat.le_trans h.size k.size, fun i hi hn => (k.block i (Nat.lt_of_lt_of_le hi h.size) (fun g => (hg i g).elim hn (fun e => by omega))).trans (h.block i hi hn)⟩
theorem Kp.same {F : Nat → Prop} {a b c : World} (h : Kp F a b) (k : Kp F b c) : Kp F a c := h.trans k fun _ hi => .inl hi
theorem Kp.mono {F G : Nat → Prop} {a b : World} (h : Kp F a b) (hg : ∀ i, F i → G i ∨ a.heap.size ≤ i) : Kp G a b := ⟨h.os, h.tape, h.output, h.size, fun i hi hn => h.block i hi fun f => (hg i f).elim hn (fun e => by omega)⟩
theorem Kp.of_below {F : Nat → Prop} {a b : World} (h : Below a.heap.size a b) : Kp F a b := ⟨h.os, h.tape, h.output, h.size, fun i hi _ => h.block i hi⟩
theorem Kp.below {F : Nat → Prop} {a b : World} (h : Kp F a b) {B : Nat} (hB : B ≤ a.heap.size) (hF : ∀ i, F i → B ≤ i) : Below B a b := ⟨h.os, h.tape, h.output, h.size, fun i hi => h.block i (by omega) (fun f => by have := hF i f; omega)⟩
theorem Kp.drew {F : Nat → Prop} {a b : World} (h : Kp F a b) : Kp F a b.drew := ⟨h.os, h.tape, h.output, h.size, h.block⟩
theorem Kp.drewN {F : Nat → Prop} {a b : World} (h : Kp F a b) (n : Nat) : Kp F a (b.drewN n) := ⟨h.os, h.tape, h.output, h.size, h.block⟩
theorem Kp.alloc {F : Nat → Prop} {a b : World} (h : Kp F a b) (o : Obj) : Kp F a (b.alloc o) :=
  h.trans (G := NoF) (Kp.of_below ((Below.refl _ _).alloc (Nat.le_refl _) o)) (fun _ h => h.elim)
theorem Kp.setCell {F : Nat → Prop} {a b : World} (h : Kp F a b) {p : Addr} (hp : F p.block ∨ a.heap.size ≤ p.block) (u : Value) : Kp F a (b.setCell p u) :=
  h.trans (G := fun i => i = p.block) ⟨rfl, rfl, rfl, by simp [World.setCell], fun k _ hn => Below.heap_setCell _ _ _ _ hn⟩ (fun i hi => by subst hi; exact hp)
theorem Kp.grown {F : Nat → Prop} {a b c : World} {row : Option Nat} (h : Kp F a b) (hg : b.grownBy c row) (hr : ∀ k, row = some k → F k ∨ a.heap.size ≤ k) : Kp F a c :=
  h.trans (G := fun i => row = some i) ⟨hg.os, hg.tape, hg.output, hg.size, fun k hk hn => hg.block k hk (fun e => hn e.symm)⟩ (fun i hi => hr i hi)
theorem Kp.cell {F : Nat → Prop} {a b : World} (h : Kp F a b) {p : Addr} (hp : p.block < a.heap.size) (hn : ¬ F p.block) : b.cell? p = a.cell? p := World.cell?_of_block (w := a) (h.block p.block hp hn)
theorem Kp.frozen {F : Nat → Prop} {a b : World} (h : Kp F a b) {p : Addr} (hp : p.block < a.heap.size) (hn : ¬ F p.block) : b.frozen? p = a.frozen? p := World.frozen?_of_block (w := a) (h.block p.block hp hn)

/-! ### bytes -/
def bv (xs : List Int) : List Value := xs.map (Value.int .u8)
def Byt (xs : List Int) : Prop := ∀ x ∈ xs, 0 ≤ x ∧ x < 256
theorem bv_len (xs : List Int) : (bv xs).length = xs.length := by simp [bv]
theorem bv_app (a b : List Int) : bv (a ++ b) = bv a ++ bv b := by simp [bv]
theorem bv_get (xs : List Int) (i : Nat) (h : i < xs.length) : (bv xs)[i]'(by rw [bv_len]; exact h) = .int .u8 xs[i] := by simp [bv]
theorem bv_one (xs : List Int) : ∀ u ∈ bv xs, u.oneCell' = true := by
  intro u hu
  simp only [bv, List.mem_map] at hu
  obtain ⟨x, _, rfl⟩ := hu
  rfl
theorem Byt.left {a b : List Int} (h : Byt (a ++ b)) : Byt a := fun x hx => h x (List.mem_append_left _ hx)
theorem Byt.right {a b : List Int} (h : Byt (a ++ b)) : Byt b := fun x hx => h x (List.mem_append_right _ hx)
theorem byt_at {w : World} {B : Nat} {A : Option Addr} {xs : List Int} (h : Mem w B A (bv xs)) {k : Nat} (hk : k < xs.length) : ∃ b off, A = some ⟨b, off, none⟩ ∧ b < B ∧ ∀ j (hj : j < xs.length), w.cell? ⟨b, off + j, none⟩ = some (.int .u8 xs[j]) := by
  obtain ⟨b, off, e, hb, hc⟩ := h.get (by rw [bv_len]; omega)
  refine ⟨b, off, e, hb, fun j hj => ?_⟩
  rw [hc j (by rw [bv_len]; exact hj), bv_get xs j hj]

/-! ### a block that is known whole -/
def Whole (w : World) (b : Nat) (t : TypeId) (cs : List Value) : Prop := w.heap[b]? = some (.cells cs.toArray t (0, 0))
section
variable {w w' : World} {b : Nat} {t : TypeId} {cs : List Value}
theorem Whole.lt (h : Whole w b t cs) : b < w.heap.size := (Array.getElem?_eq_some_iff.1 h).1
theorem Whole.cell (h : Whole w b t cs) (i : Nat) : w.cell? ⟨b, i, none⟩ = cs[i]? := by
  unfold Whole at h
  simp [World.cell?, h]
theorem Whole.frozen (h : Whole w b t cs) (i : Nat) : w.frozen? ⟨b, i, none⟩ = false := by
  unfold Whole at h
  simp [World.frozen?, h]
theorem Whole.of_block (h : Whole w b t cs) (hb : w'.heap[b]? = w.heap[b]?) : Whole w' b t cs := hb.trans h
theorem Whole.below {B : Nat} (h : Whole w b t cs) (hb : Below B w w') (hB : b < B) : Whole w' b t cs := h.of_block (hb.block b hB)
theorem Whole.kp {F : Nat → Prop} (h : Whole w b t cs) (hb : Kp F w w') (hn : ¬ F b) : Whole w' b t cs := h.of_block (hb.block b h.lt hn)
theorem Whole.new (w : World) (cs : List Value) (t : TypeId) : Whole (w.alloc (.cells cs.toArray t)) w.heap.size t cs := heap_alloc_new w _
theorem Whole.set_ (h : Whole w b t cs) (i : Nat) (v : Value) : Whole (w.setCell ⟨b, i, none⟩ v) b t (cs.set i v) := by
  unfold Whole at h ⊢
  simp only [World.setCell, Array.getElem?_modify, if_true, h, Option.map_some]
  simp
theorem Whole.mem (h : Whole w b t cs) : Mem w w.heap.size (some ⟨b, 0, none⟩) cs := fun _ => ⟨b, 0, rfl, h.lt, fun i hi => by rw [Nat.zero_add, h.cell]; exact List.getElem?_eq_getElem hi⟩
end
/-! ### an own row -/
theorem owns_block {w w' : World} {base : Nat} {e : TypeId} {size : Nat} {v : Value} {n : Nat} {xs : List Value} (h : w.ownsRow base e size v n xs) (hk : ∀ g, v.ownBlock = some g → w'.heap[g]? = w.heap[g]?) : w'.ownsRow base e size v n xs := by
  refine ⟨h.1, ?_⟩
  rcases h.2 with ⟨rfl, rfl⟩ | ⟨g, cap, cur, rfl, hb, hg, h1, h2, h3, h4⟩
  · exact .inl ⟨rfl, rfl⟩
  · exact .inr ⟨g, cap, cur, rfl, hb, (hk g rfl).trans hg, h1, h2, h3, h4⟩
theorem owns_base {w : World} {base base' : Nat} {e : TypeId} {size : Nat} {v : Value} {n : Nat} {xs : List Value} (h : w.ownsRow base e size v n xs) (hk : ∀ g, v.ownBlock = some g → base' ≤ g) : w.ownsRow base' e size v n xs := by
  refine ⟨h.1, ?_⟩
  rcases h.2 with ⟨rfl, rfl⟩ | ⟨g, cap, cur, rfl, hb, hg, h1, h2, h3, h4⟩
  · exact .inl ⟨rfl, rfl⟩
  · exact .inr ⟨g, cap, cur, rfl, hk g rfl, hg, h1, h2, h3, h4⟩
theorem owns_slice {w : World} {base : Nat} {e : TypeId} {size : Nat} {v : Value} {n : Nat} {xs : List Value} (h : w.ownsRow base e size v n xs) : ∃ A c, v = .slice A n c := by
  rcases h.2 with ⟨rfl, rfl⟩ | ⟨g, cap, cur, rfl, _⟩
  · exact ⟨_, _, rfl⟩
  · exact ⟨_, _, rfl⟩
theorem owns_mem {w : World} {base size n c : Nat} {e : TypeId} {A : Option Addr} {l : List Value} (h : w.ownsRow base e size (.slice A n c) n l) : Mem w w.heap.size A l := by
  intro h0
  have hl := h.1
  rcases h.2 with ⟨e, rfl⟩ | ⟨g, cap, cur, e, _, hg, h1, _, h3, h4⟩
  · rw [hl, Nat.zero_mul] at h0
    omega
  · injection e with e _ e2
    subst e
    refine ⟨g, 0, rfl, (Array.getElem?_eq_some_iff.1 hg).1, fun i hi => ?_⟩
    have e : cur.toList[i]? = some (l[i]) := by
      rw [← List.getElem?_eq_getElem, ← h4, List.getElem?_take_of_lt (by omega)]
    rw [Array.getElem?_toList] at e
    simp [World.cell?, hg, e]
section
variable {P : Program} (w : World)
/-- Behind an append of an own slice: its row is the old one, or new. -/
theorem append_new_or_same (base : Nat) (t ty e : TypeId) (i : TypeInfo) (z : Value) (size bytes : Nat) (ht : P.underlying t = some (.slice e)) (hi : P.info? e = some i) (hz : i.zero = some z)
    (hsize : i.size = size) (hby : i.bytes = bytes) (v : Value) (n : Nat) (xs : List Value) (hown : w.ownsRow base e size v n xs)
    (a : Addr) (m c : Nat) (news : List Value) (hl : news.length = m * size) (hnews : ∀ j u, news[j]? = some u → w.cell? (a.add j) = some u) (h1 : ∀ u ∈ news, u.oneCell' = true)
    (h63 : n + m ≤ maxLen) (hbytes : (n + m) * bytes ≤ 140737488355328) {v' : Value} {w' : World} (hr : (Builtin.append_ #[t, t] ty #[v, .slice (some a) m c]).run P w = .ok v' w') (g : Nat) (hg : v'.ownBlock = some g) : v.ownBlock = some g ∨ w.heap.size ≤ g := by
  subst hsize
  subst hby
  have hsmall : n + m ≤ 9223372036854775807 := by simp only [maxLen] at h63; omega
  rcases hown.2 with ⟨rfl, rfl⟩ | ⟨g0, cap, cur, rfl, _, hg0, hnc, _, hcs, _⟩
  · by_cases hm : m = 0
    · subst hm
      have hn : news = [] := List.eq_nil_of_length_eq_zero (by simpa using hl)
      subst hn
      have e : (Builtin.append_ #[t, t] ty #[.slice none 0 0, .slice (some a) 0 c]).run P w = .ok (.slice none 0 0) w := by
        simp [Builtin.append_, run_underlying ht, sizeOf, typeInfo, hi, Builtin.lenOf, Builtin.firstCells, loadCells, loadCellsFrom]
      rw [e] at hr
      injection hr with hr _
      subst hr
      cases hg
    · rw [run_append_nil (P := P) w t ty e i z ht hi hz a m c news hl hnews (by omega) (by omega) (by simp only [Nat.zero_add] at hbytes; omega)] at hr
      injection hr with hr _
      subst hr
      cases hg
      exact .inr (Nat.le_refl _)
  · by_cases hroom : n + m ≤ cap
    · rw [run_append_room (P := P) w t ty e i ht hi g0 n cap cur hg0 a m c news hl hnews h1 hroom (by rw [hl, hcs, ← Nat.add_mul]; exact Nat.mul_le_mul_right _ hroom)] at hr
      injection hr with hr _
      subst hr
      exact .inl hg
    · rw [run_append_grow (P := P) w t ty e i z ht hi hz ⟨g0, 0, none⟩ n cap xs hown.1 (hown.cells (g := g0) rfl) a m c news hl hnews (by omega) (by omega) (growslice_fits (by omega) hbytes)] at hr
      injection hr with hr _
      subst hr
      cases hg
      exact .inr (Nat.le_refl _)
end
end Go.Proofs.YtokibbgahefkbaaGreatDoor.Fe
namespace Go.Proofs.YtokibbgahefkbaaGreatDoor.Pl

/-- a number's bytes, the highest first: the first j of k -/
def beTo (k : Nat) (n : Int) (j : Nat) : List Int := (List.range j).map fun i => n / 2 ^ (8 * (k - 1 - i)) % 256
def be (k : Nat) (n : Int) : List Int := beTo k n k
theorem beTo_len (k : Nat) (n : Int) (j : Nat) : (beTo k n j).length = j := by simp [beTo]
theorem be_len (k : Nat) (n : Int) : (be k n).length = k := beTo_len k n k
theorem beTo_step (k : Nat) (n : Int) (j : Nat) : beTo k n (j + 1) = beTo k n j ++ [n / 2 ^ (8 * (k - 1 - j)) % 256] := by
  unfold beTo
  rw [List.range_succ, List.map_append]
  rfl
/-- what bytes say -/
def un (l : List Int) : Int := l.foldl (fun n c => n * 256 + c) 0
def wide (n : Int) : Bool := decide (n = 1 ∨ n = 2 ∨ n = 4 ∨ n = 8)
end Go.Proofs.YtokibbgahefkbaaGreatDoor.Pl
namespace Go.Proofs.YtokibbgahefkbaaGreatDoor.Fe
open Go.RowKit

set_option maxHeartbeats 400000 in
theorem wide_any (n : Int) (w : World) : Calls Tryz.prog 59 #[.int .i64 n] w fun e w' => e = .returned (.bool (Pl.wide n)) ∧ w = w' := by
  by_cases h1 : n = 1
  · subst h1
    go_enter Tryz.func59, Tryz.ntmps59
    go_wp2
    go_ret
    exact ⟨rfl, rfl⟩
  · by_cases h2 : n = 2
    · subst h2
      go_enter Tryz.func59, Tryz.ntmps59
      go_wp2
      go_ret
      exact ⟨rfl, rfl⟩
    · by_cases h4 : n = 4
      · subst h4
        go_enter Tryz.func59, Tryz.ntmps59
        go_wp2
        go_ret
        exact ⟨rfl, rfl⟩
      · have e1 : (n == 1) = false := by simp [h1]
        have e2 : (n == 2) = false := by simp [h2]
        have e4 : (n == 4) = false := by simp [h4]
        have H8 : Pl.wide n = (n == 8) := by simp [Pl.wide, h1, h2, h4, Bool.beq_eq_decide_eq]
        have HH := hide H8
        clear h1 h2 h4 H8
        go_enter Tryz.func59, Tryz.ntmps59
        go_wp2
        go_ret
        exact ⟨ret_bool HH.out.symm, rfl⟩
theorem infoU8 : (Tryz.prog.info? 5).map (fun i => (i.zero, i.size, i.bytes)) = some (some (.int .u8 0), 1, 1) := by kernel_rfl
theorem info_parts {P : Program} {t : TypeId} {z : Value} {s b : Nat} (h : (P.info? t).map (fun i => (i.zero, i.size, i.bytes)) = some (some z, s, b)) : ∃ i, P.info? t = some i ∧ i.zero = some z ∧ i.size = s ∧ i.bytes = b := by
  cases hi : P.info? t with
  | none => rw [hi] at h; cases h
  | some i =>
    rw [hi] at h
    simp only [Option.map_some, Option.some.injEq, Prod.mk.injEq] at h
    exact ⟨i, rfl, h.1, h.2.1, h.2.2⟩
theorem new_cells (w : World) (cs : List Value) (t : TypeId) (j : Nat) (u : Value) (h : cs[j]? = some u) : (w.alloc (.cells cs.toArray t)).cell? ((⟨w.heap.size, 0, none⟩ : Addr).add j) = some u := by
  have e : (⟨w.heap.size, 0, none⟩ : Addr).add j = ⟨w.heap.size, j, none⟩ := by unfold Addr.add; split <;> simp_all
  rw [e, (Whole.new w cs t).cell, h]
theorem cell_lt {w : World} {b o : Nat} {v : Value} (h : w.cell? ⟨b, o, none⟩ = some v) : b < w.heap.size := by
  by_cases hb : b < w.heap.size
  · exact hb
  · exfalso
    simp [World.cell?, Array.getElem?_eq_none (Nat.le_of_not_lt hb)] at h
/-- what a closure of Put hands over -/
def Gives (ys : List Int) (w : World) (e : Ending) (w' : World) : Prop := ∃ A c, e = .returned (.slice A ys.length c) ∧ Mem w' w'.heap.size A (bv ys) ∧ Below w.heap.size w w'
set_option maxHeartbeats 1000000 in
set_option maxRecDepth 20000 in
theorem putFn_any (a1 a2 : Nat) (k : Nat) (n : Int) (w : World) (hk : k ≤ 8) (_hn0 : 0 ≤ n) (hn1 : n < 18446744073709551616) (h1 : w.cell? ⟨a1, 0, none⟩ = some (.int .i64 (k : Int))) (h2 : w.cell? ⟨a2, 0, none⟩ = some (.int .u64 n)) :
    Calls Tryz.prog 75 #[.pointer (some ⟨a1, 0, none⟩), .pointer (some ⟨a2, 0, none⟩)] w (Gives (Pl.be k n) w) := by
  obtain ⟨i0, hi, hz0, hz1, hz2⟩ := info_parts infoU8
  have HN := hide hn1
  clear hn1
  have b1 : a1 < w.heap.size := cell_lt h1
  have b2 : a2 < w.heap.size := cell_lt h2
  go_enter Tryz.func75, Tryz.ntmps75
  go_wp2
  go_loopw [3, 4] (fun v i wr => ∃ j : Nat, j ≤ k ∧ i = .int .i64 ((k : Int) - 1 - j) ∧ wr.ownsRow w.heap.size 5 1 v j (bv (Pl.beTo k n j)) ∧ Below w.heap.size w wr) (fun _ i _ => (intOf i + 1).toNat)
  case atStart => exact ⟨0, Nat.zero_le _, by simp, ⟨by simp [Pl.beTo, bv], .inl ⟨rfl, rfl⟩⟩, Below.refl _ _⟩
  case round =>
    obtain ⟨j, hj, rfl, hown, hb⟩ := hrel
    have HO := hide hown
    have HB := hide hb
    have f1 := (hb.cell (p := ⟨a1, 0, none⟩) b1).trans h1
    have f2 := (hb.cell (p := ⟨a2, 0, none⟩) b2).trans h2
    have hsz := hb.size
    clear hown hb
    by_cases hlt : j < k
    · obtain ⟨m, hm⟩ : ∃ m : Nat, (k : Int) - 1 - j = m := ⟨k - 1 - j, by omega⟩
      have h7 : m ≤ 7 := by omega
      have HM := hide hm
      rw [hm]
      clear hm
      go_wp2_with (at_builtin; refine wpList_append_own _ rfl _ _ 69 rfl w.heap.size 5 i0 (.int .u8 0) 1 1 Tryz.underlying69 hi hz0 hz1 hz2 rfl (by decide) _ _ _ rfl (HO.out.alloc _) ⟨wr.heap.size, 0, none⟩ 1 1 [.int .u8 (n / 2 ^ (8 * m) % 256)] rfl rfl ?c1 ?c2 ?c3 ?c4 ?c5 ?_)
      try (case c1 => exact fun j u hu => new_cells wr _ _ j u hu)
      case c2 => exact bv_one [_]
      case c3 => unfold maxLen; omega
      case c4 => omega
      case c5 => have : (wr.alloc (.cells #[.int .u8 (n / 2 ^ (8 * m) % 256)] 5)).heap.size = wr.heap.size + 1 := by simp
                 omega
      intro v2 w2 hown2 hg2 _
      have HO2 := hide hown2
      have HB2 := hide ((HB.out.alloc hsz (.cells #[.int .u8 (n / 2 ^ (8 * m) % 256)] 5)).grown hg2 (by simp; omega) (fun g hg => (HO.out.lt g hg).1))
      clear hown2 hg2
      go_wp2
      go_roundw
      case rel =>
        refine ⟨j + 1, by omega, ?_, ?_, HB2.out⟩
        · have := HM.out
          congr 1
          omega
        · have e : k - 1 - j = m := by have := HM.out; omega
          rw [Pl.beTo_step, bv_app, e]
          exact HO2.out
      case measure => simp [intOf]
    · obtain rfl : j = k := by omega
      have e : (j : Int) - 1 - j = -1 := by omega
      rw [e]
      clear e
      go_wp2
      go_ret
      obtain ⟨A, c, rfl⟩ := owns_slice HO.out
      exact ⟨A, c, by rw [Pl.be_len]; rfl, owns_mem HO.out, HB.out⟩
end Go.Proofs.YtokibbgahefkbaaGreatDoor.Fe
namespace Go.Proofs.YtokibbgahefkbaaGreatDoor.Fe
open Go.RowKit Go.Shelf

section
variable {P : Program} (w : World)
/-- append of a slice that came in (it may be nil), in a region that draws: what is left, and whose row it is -/
theorem run_app_none (base : Nat) (t ty e : TypeId) (i : TypeInfo) (size : Nat) (ht : P.underlying t = some (.slice e)) (hi : P.info? e = some i)
    (v : Value) (n : Nat) (xs : List Value) (hown : w.ownsRow base e size v n xs) (c : Nat) :
    (Builtin.append_ #[t, t] ty #[v, .slice none 0 c]).run P w = .ok v w := by
  rcases hown.2 with ⟨rfl, rfl⟩ | ⟨g, cap, cur, rfl, _, _, hnc, _⟩
  · simp [Builtin.append_, run_underlying ht, sizeOf, typeInfo, hi, Builtin.lenOf, Builtin.firstCells]
  · simp [Builtin.append_, run_underlying ht, sizeOf, typeInfo, hi, Builtin.lenOf, Builtin.firstCells, hnc, storeCells]
theorem add_addr (b o j : Nat) : (⟨b, o, none⟩ : Addr).add j = ⟨b, o + j, none⟩ := by
  unfold Addr.add
  split
  · rename_i h; subst h; rfl
  · rfl
theorem run_app (t ty : TypeId) (base : Nat) (e : TypeId) (i : TypeInfo) (z : Value) (size bytes : Nat) (ht : P.underlying t = some (.slice e)) (hi : P.info? e = some i) (hz : i.zero = some z)
    (hsize : i.size = size) (hby : i.bytes = bytes) (hzs : z.cells.size = size) (hsz : 0 < size)
    (v : Value) (n : Nat) (xs : List Value) (hown : w.ownsRow base e size v n xs)
    (A : Option Addr) (m c : Nat) (news : List Value) (hl : news.length = m * size) (hA : Mem w w.heap.size A news) (h1 : ∀ u ∈ news, u.oneCell' = true)
    (h63 : n + m ≤ maxLen) (hbytes : (n + m) * bytes ≤ 140737488355328) (hbase : base ≤ w.heap.size) :
    ∃ A' c' w', (Builtin.append_ #[t, t] ty #[v, .slice A m c]).run P w = .ok (.slice A' (n + m) c') w' ∧ w'.ownsRow base e size (.slice A' (n + m) c') (n + m) (xs ++ news) ∧ w.grownBy w' v.ownBlock ∧ ∀ g, (Value.slice A' (n + m) c').ownBlock = some g → v.ownBlock = some g ∨ w.heap.size ≤ g := by
  cases A with
  | none =>
    have hm : m = 0 := by
      rcases Nat.eq_zero_or_pos m with h | h
      · exact h
      · obtain ⟨b, off, hh, _⟩ := hA (by rw [hl]; exact Nat.mul_pos h hsz)
        cases hh
    subst hm
    have hn : news = [] := List.eq_nil_of_length_eq_zero (by simpa using hl)
    subst hn
    obtain ⟨A', c', rfl⟩ := owns_slice hown
    refine ⟨A', c', w, run_app_none w base t ty e i size ht hi _ n xs hown c, by simpa using hown, ⟨rfl, rfl, rfl, Nat.le_refl _, fun _ _ _ => rfl⟩, fun g hg => .inl hg⟩
  | some ad =>
    have hc : ∀ j u, news[j]? = some u → w.cell? (ad.add j) = some u := by
      intro j u hu
      obtain ⟨hj, hu'⟩ := List.getElem?_eq_some_iff.1 hu
      obtain ⟨b, off, hh, _, hcc⟩ := hA (by omega)
      injection hh with hh
      subst hh
      rw [add_addr, hcc j hj, hu']
    obtain ⟨v', w', hr, h2, h3, _⟩ := run_append_own (P := P) w base t ty e i z size bytes ht hi hz hsize hby hzs hsz v n xs hown ad m c news hl hc h1 h63 hbytes hbase
    have hns := append_new_or_same (P := P) w base t ty e i z size bytes ht hi hz hsize hby v n xs hown ad m c news hl hc h1 h63 hbytes hr
    obtain ⟨A', c', rfl⟩ := owns_slice h2
    exact ⟨A', c', w', hr, h2, h3, hns⟩
/-- at an operation of a region that draws -/
theorem step_app {ops : Array Oper} {o : Oper} {a : Act} {K : Act → World → Prop} {Q : Exit → Act → World → Prop} {E : Prop} (hgd : o.guard = none) (s x : Operand) (t : TypeId)
    (ho : o.op = .call { callee := .builtin .append, args := #[s, x], argTypes := #[t, t] })
    (base : Nat) (e : TypeId) (i : TypeInfo) (z : Value) (size bytes : Nat) (ht : P.underlying t = some (.slice e)) (hi : P.info? e = some i) (hz : i.zero = some z)
    (hsize : i.size = size) (hby : i.bytes = bytes) (hzs : z.cells.size = size) (hsz : 0 < size)
    (v : Value) (n : Nat) (xs : List Value) (hs : a.eval s = v) (hown : w.ownsRow base e size v n xs)
    (A : Option Addr) (m c : Nat) (news : List Value) (hx : a.eval x = .slice A m c) (hl : news.length = m * size) (hA : Mem w w.heap.size A news) (h1 : ∀ u ∈ news, u.oneCell' = true)
    (h63 : n + m ≤ maxLen) (hbytes : (n + m) * bytes ≤ 140737488355328) (hbase : base ≤ w.heap.size)
    (h : ∀ A' c' w', w'.ownsRow base e size (.slice A' (n + m) c') (n + m) (xs ++ news) → w.grownBy w' v.ownBlock → (∀ g, (Value.slice A' (n + m) c').ownBlock = some g → v.ownBlock = some g ∨ w.heap.size ≤ g) → K (a.put o.dst (.slice A' (n + m) c')) w') :
    if Region.wanted o (yielded ops a.tmps) = true then Oper.wp P o a w K Q else E := by
  have hw : Region.wanted o (yielded ops a.tmps) = true := by simp [Region.wanted, hgd]
  rw [if_pos hw]
  obtain ⟨A', c', w', hr, h2, h3, h4⟩ := run_app (P := P) w t o.type base e i z size bytes ht hi hz hsize hby hzs hsz v n xs hown A m c news hl hA h1 h63 hbytes hbase
  unfold Oper.wp execOp
  simp only [ho, resolve, invoke, builtin, Sem.run_bind, Sem.run_pure, Result.andThen_ok, List.map_toArray, List.map_cons, List.map_nil, hs, hx, hr]
  exact h A' c' w' h2 h3 h4
end
theorem own_ne {W : World} {base : Nat} {e : TypeId} {size : Nat} {v : Value} {n : Nat} {xs cs : List Value} {b : Nat} {t : TypeId} (h : W.ownsRow base e size v n xs) (hb : Whole W b t cs) (hne : t ≠ e) : v.ownBlock ≠ some b := by
  rcases h.2 with ⟨rfl, _⟩ | ⟨g, cap, cur, rfl, _, hg, _⟩
  · intro h; cases h
  · intro h
    injection h with h
    subst h
    unfold Whole at hb
    rw [hg] at hb
    injection hb with hb
    injection hb with _ hb
    exact hne hb.symm
/-- a packer that holds bytes and no error -/
structure Pk (W : World) (bp : Nat) (v : Value) (xs : List Int) : Prop where
  box : Whole W bp 139 [v, .int .i64 0]
  own : W.ownsRow 0 5 1 v xs.length (bv xs)
def pkF (bp : Nat) (v : Value) : Nat → Prop := fun k => k = bp ∨ v.ownBlock = some k
theorem Pk.kp {W W' : World} {bp : Nat} {v : Value} {xs : List Int} {F : Nat → Prop} (h : Pk W bp v xs) (hk : Kp F W W') (hn : ∀ k, pkF bp v k → F k → False) : Pk W' bp v xs :=
  ⟨h.box.kp hk (fun hf => hn _ (.inl rfl) hf), owns_block h.own fun g hg => hk.block g (h.own.lt g hg).2 (fun hf => hn _ (.inr hg) hf)⟩
theorem Pk.lt {W : World} {bp : Nat} {v : Value} {xs : List Int} (h : Pk W bp v xs) {k : Nat} (hk : pkF bp v k) : k < W.heap.size := by
  rcases hk with rfl | hk
  · exact h.box.lt
  · exact (h.own.lt k hk).2
/-- what Put, Text and Name hand back -/
def PutRes (bp : Nat) (v : Value) (zs : List Int) (W : World) (e : Ending) (W' : World) : Prop :=
  ∃ v', e = .returned (.pointer (some ⟨bp, 0, none⟩)) ∧ Pk W' bp v' zs ∧ Kp (pkF bp v) W W' ∧ ∀ k, pkF bp v' k → pkF bp v k ∨ W.heap.size ≤ k
/-- behind the append, ahead of the store -/
structure PutS (W : World) (bp : Nat) (v : Value) (zs : List Int) (v' : Value) (w2 : World) : Prop where
  kp : Kp (pkF bp v) W w2
  box : Whole w2 bp 139 [v, .int .i64 0]
  own : w2.ownsRow 0 5 1 v' zs.length (bv zs)
  ns : ∀ k, v'.ownBlock = some k → pkF bp v k ∨ W.heap.size ≤ k
theorem putS {W w1 w2 : World} {bp : Nat} {v : Value} {xs ys : List Int} {A' : Option Addr} {q' : Nat} (hb : Below W.heap.size W w1) (h : Pk w1 bp v xs) (ho : w2.ownsRow 0 5 1 (.slice A' (xs.length + ys.length) q') (xs.length + ys.length) (bv xs ++ bv ys))
    (hg : w1.grownBy w2 v.ownBlock) (hns : ∀ g, (Value.slice A' (xs.length + ys.length) q').ownBlock = some g → v.ownBlock = some g ∨ w1.heap.size ≤ g) : PutS W bp v (xs ++ ys) (.slice A' (xs.length + ys.length) q') w2 := by
  refine ⟨(Kp.of_below hb).grown hg (fun k hk => .inl (.inr hk)), h.box.of_block (hg.block bp h.box.lt (fun e => own_ne h.own h.box (by decide) e.symm)), ?_, fun k hk => ?_⟩
  · rw [List.length_append, bv_app]
    exact ho
  · rcases hns k hk with h | h
    · exact .inl (.inr h)
    · exact .inr (Nat.le_trans hb.size h)
/-- behind the store -/
structure PutE (W : World) (bp : Nat) (v : Value) (zs : List Int) (v' : Value) (w2 : World) : Prop where
  kp : Kp (pkF bp v) W w2
  pk : Pk w2 bp v' zs
  ns : ∀ k, v'.ownBlock = some k → pkF bp v k ∨ W.heap.size ≤ k
theorem PutS.stored {W w2 : World} {bp : Nat} {v v' : Value} {zs : List Int} (h : PutS W bp v zs v' w2) : PutE W bp v zs v' (w2.setCell ⟨bp, 0, none⟩ v') :=
  ⟨h.kp.setCell (.inl (.inl rfl)) _, ⟨h.box.set_ 0 v', owns_block h.own fun g hg => Below.heap_setCell _ _ _ _ (fun e => own_ne h.own h.box (by decide) (hg.trans (congrArg some e)))⟩, h.ns⟩
theorem PutE.res {W w2 : World} {bp : Nat} {v v' : Value} {zs : List Int} (h : PutE W bp v zs v' w2) : PutRes bp v zs W (.returned (.pointer (some ⟨bp, 0, none⟩))) w2 :=
  ⟨v', rfl, h.pk, h.kp, fun k hk => hk.elim (fun e => .inl (.inl e)) (h.ns k)⟩

set_option maxHeartbeats 1000000 in
set_option maxRecDepth 20000 in
theorem puts_any (bp : Nat) (v : Value) (xs ys : List Int) (f : FuncId) (cap : Array Value) (W : World) (hpk : Pk W bp v xs) (hl : xs.length + ys.length ≤ 1000000) (ef : ∀ args w, (callFunc f args).run Tryz.prog w = .ok (.enter f args) w)
    (hf : ∀ W1, Below W.heap.size W W1 → Calls Tryz.prog f cap W1 (Gives ys W1)) :
    Calls Tryz.prog 74 #[.pointer (some ⟨bp, 0, none⟩), .bool true, .func (.func f) #[] cap] W (PutRes bp v (xs ++ ys) W) := by
  obtain ⟨i0, hi, hz0, hz1, hz2⟩ := info_parts infoU8
  have HPk := hide hpk
  have HF := fun W1 (hb : Below W.heap.size W W1) => hide (hf W1 hb)
  have hbp := hpk.box.lt
  clear hpk hf
  go_enter Tryz.func74, Tryz.ntmps74
  go_wp2_with fail
  have HPn := hide (HPk.out.kp (F := NoF) ((Kp.refl _ _).drew) (fun _ _ h => h.elim))
  · skip
    refine wp_region_held_drew (S := (fun w' => Kp (pkF bp v) W w')) (by kernel_rfl) ((Kp.refl _ _).drew) (fun hHeld => ?_)
    generalize hwd : W.drew = wd at *
    have HB0 := hide (show Below W.heap.size W wd from hwd ▸ (Below.refl _ _).drew)
    clear hwd
    refine wpAnyH_take (i := 0) (v := ?vq1) rfl (by kernel_rfl) (by kernel_rfl) (by kernel_rfl) (fun _ _ _ h => h) (Or.inl ⟨by rfl, ?hq1⟩) (by assumption) ?rq1
    case hq1 => (intro wq hSw; go_simp; (try with_reducible rfl))
    try simp only [Act.put, List.getElem_toArray, List.getElem_cons_zero, List.setIfInBounds_toArray, List.set_cons_zero, List.set_cons_succ]
    refine wpAnyH_take (i := 1) (v := ?vq2) rfl (by kernel_rfl) (by kernel_rfl) (by kernel_rfl) (fun _ _ _ h => h) (Or.inl ⟨by rfl, ?hq2⟩) (by assumption) ?rq2
    case hq2 => (intro wq hSw; go_simp; (try with_reducible rfl))
    try simp only [Act.put, List.getElem_toArray, List.getElem_cons_zero, List.getElem_cons_succ, List.setIfInBounds_toArray, List.set_cons_zero, List.set_cons_succ]
    refine wpAnyH_take (i := 2) (v := ?vq3) rfl (by kernel_rfl) (by kernel_rfl) (by kernel_rfl) (fun _ _ _ h => h) (Or.inl ⟨by rfl, ?hq3⟩) (by assumption) ?rq3
    case hq3 => (intro wq hSw; go_simp; (try with_reducible rfl))
    try simp only [Act.put, List.getElem_toArray, List.getElem_cons_zero, List.getElem_cons_succ, List.setIfInBounds_toArray, List.set_cons_zero, List.set_cons_succ]
    refine wpAnyH_take (i := 3) (v := ?vq4) rfl (by kernel_rfl) (by kernel_rfl) (by kernel_rfl) (fun _ _ _ h => h) (Or.inl ⟨by rfl, ?hq4⟩) (by assumption) ?rq4
    case hq4 => (intro wq hSw; go_simp; (try with_reducible rfl))
    try simp only [Act.put, List.getElem_toArray, List.getElem_cons_zero, List.getElem_cons_succ, List.setIfInBounds_toArray, List.set_cons_zero, List.set_cons_succ]
    refine wpAnyH_take (i := 5) (v := ?vq5) rfl (by kernel_rfl) (by kernel_rfl) (by kernel_rfl) (fun _ _ _ h => h) (Or.inl ⟨by rfl, ?hq5⟩) (by assumption) ?rq5
    case hq5 => (intro wq hSw; go_simp; (try with_reducible rfl))
    try simp only [Act.put, List.getElem_toArray, List.getElem_cons_zero, List.getElem_cons_succ, List.setIfInBounds_toArray, List.set_cons_zero, List.set_cons_succ]
    refine wpAnyH_ready (rs := [4, 6]) (by kernel_rfl) (by simp) ?_
    refine AllReadyH.cons (o := _) rfl (fun K hK => ?_) ?_
    · skip
      have c0 := HPn.out.box.cell 0
      go_simp
      refine hK.out _ _ (hHeld) (fun hHeld => ?_)
      clear hK K c0
      try simp only [Act.put, List.getElem_toArray, List.getElem_cons_zero, List.getElem_cons_succ, List.setIfInBounds_toArray, List.set_cons_zero, List.set_cons_succ]
      refine wpAnyH_ready (rs := [6]) (by kernel_rfl) (by simp) ?_
      refine AllReadyH.cons (o := _) rfl (fun K hK => ?_) ?_
      · skip
        go_simp
        refine (HF _ HB0.out).out.mono ?_
        rintro e w1 ⟨A, c, rfl, hm, hb⟩
        have HB1 := hide (HB0.out.trans (hb.mono HB0.out.size))
        have HM1 := hide hm
        have HP1 := hide (HPn.out.kp (F := NoF) (Kp.of_below hb) (fun _ _ h => h.elim))
        clear hb hm HPn
        have HPn := HP1
        clear HP1
        refine hK.out _ _ (Kp.of_below HB1.out) (fun hHeld => ?_)
        clear hK K 
        try simp only [Act.put, List.getElem_toArray, List.getElem_cons_zero, List.getElem_cons_succ, List.setIfInBounds_toArray, List.set_cons_zero, List.set_cons_succ]
        refine wpAnyH_ready (rs := [7]) (by kernel_rfl) (by simp) ?_
        refine AllReadyH.cons (o := _) rfl (fun K hK => ?_) ?_
        · skip
          refine step_app _ (by rfl) _ _ _ (by rfl) 0 5 i0 (.int .u8 0) 1 1 Tryz.underlying69 hi hz0 hz1 hz2 rfl (by decide) v xs.length (bv xs) (by rfl) HPn.out.own A ys.length c (bv ys) (by rfl) (by rw [bv_len]; omega) HM1.out (bv_one _) (by unfold maxLen; omega) (by omega) (Nat.zero_le _) ?_
          intro A' q' w2 ho hg hns
          have HS := hide (putS HB1.out HPn.out ho hg hns)
          clear ho hg hns
          refine hK.out _ _ (HS.out.kp) (fun hHeld => ?_)
          clear hK K 
          try simp only [Act.put, List.getElem_toArray, List.getElem_cons_zero, List.getElem_cons_succ, List.setIfInBounds_toArray, List.set_cons_zero, List.set_cons_succ]
          refine wpAnyH_take (i := 8) (v := ?vq6) rfl (by kernel_rfl) (by kernel_rfl) (by kernel_rfl) (fun _ _ _ h => h) (Or.inl ⟨by rfl, ?hq6⟩) (by assumption) ?rq6
          case hq6 => (intro wq hSw; go_simp; (try with_reducible rfl))
          try simp only [Act.put, List.getElem_toArray, List.getElem_cons_zero, List.getElem_cons_succ, List.setIfInBounds_toArray, List.set_cons_zero, List.set_cons_succ]
          refine wpAnyH_take (i := 9) (v := ?vq7) rfl (by kernel_rfl) (by kernel_rfl) (by kernel_rfl) (fun _ _ _ h => h) (Or.inl ⟨by rfl, ?hq7⟩) (by assumption) ?rq7
          case hq7 => (intro wq hSw; go_simp; (try with_reducible rfl))
          try simp only [Act.put, List.getElem_toArray, List.getElem_cons_zero, List.getElem_cons_succ, List.setIfInBounds_toArray, List.set_cons_zero, List.set_cons_succ]
          refine wpAnyH_ready (rs := [10]) (by kernel_rfl) (by simp) ?_
          refine AllReadyH.cons (o := _) rfl (fun K hK => ?_) ?_
          · skip
            have o1 := HS.out.box.cell 0
            have f1 := HS.out.box.frozen 0
            go_simp
            have HE := hide HS.out.stored
            refine hK.out _ _ (HE.out.kp) (fun hHeld => ?_)
            clear hK K o1 f1
            try simp only [Act.put, List.getElem_toArray, List.getElem_cons_zero, List.getElem_cons_succ, List.setIfInBounds_toArray, List.set_cons_zero, List.set_cons_succ]
            refine wpAnyH_done (by kernel_rfl) ?_ _
            go_wp2_with fail
            go_ret
            exact HE.out.res
          exact AllReadyH.nil
        exact AllReadyH.nil
      exact AllReadyH.nil
    refine AllReadyH.cons (o := _) rfl (fun K hK => ?_) ?_
    · skip
      go_simp
      refine (HF _ HB0.out).out.mono ?_
      rintro e w1 ⟨A, c, rfl, hm, hb⟩
      have HB1 := hide (HB0.out.trans (hb.mono HB0.out.size))
      have HM1 := hide hm
      have HP1 := hide (HPn.out.kp (F := NoF) (Kp.of_below hb) (fun _ _ h => h.elim))
      clear hb hm HPn
      have HPn := HP1
      clear HP1
      refine hK.out _ _ (Kp.of_below HB1.out) (fun hHeld => ?_)
      clear hK K 
      try simp only [Act.put, List.getElem_toArray, List.getElem_cons_zero, List.getElem_cons_succ, List.setIfInBounds_toArray, List.set_cons_zero, List.set_cons_succ]
      refine wpAnyH_ready (rs := [4]) (by kernel_rfl) (by simp) ?_
      refine AllReadyH.cons (o := _) rfl (fun K hK => ?_) ?_
      · skip
        have c0 := HPn.out.box.cell 0
        go_simp
        refine hK.out _ _ (hHeld) (fun hHeld => ?_)
        clear hK K c0
        try simp only [Act.put, List.getElem_toArray, List.getElem_cons_zero, List.getElem_cons_succ, List.setIfInBounds_toArray, List.set_cons_zero, List.set_cons_succ]
        refine wpAnyH_ready (rs := [7]) (by kernel_rfl) (by simp) ?_
        refine AllReadyH.cons (o := _) rfl (fun K hK => ?_) ?_
        · skip
          refine step_app _ (by rfl) _ _ _ (by rfl) 0 5 i0 (.int .u8 0) 1 1 Tryz.underlying69 hi hz0 hz1 hz2 rfl (by decide) v xs.length (bv xs) (by rfl) HPn.out.own A ys.length c (bv ys) (by rfl) (by rw [bv_len]; omega) HM1.out (bv_one _) (by unfold maxLen; omega) (by omega) (Nat.zero_le _) ?_
          intro A' q' w2 ho hg hns
          have HS := hide (putS HB1.out HPn.out ho hg hns)
          clear ho hg hns
          refine hK.out _ _ (HS.out.kp) (fun hHeld => ?_)
          clear hK K 
          try simp only [Act.put, List.getElem_toArray, List.getElem_cons_zero, List.getElem_cons_succ, List.setIfInBounds_toArray, List.set_cons_zero, List.set_cons_succ]
          refine wpAnyH_take (i := 8) (v := ?vq8) rfl (by kernel_rfl) (by kernel_rfl) (by kernel_rfl) (fun _ _ _ h => h) (Or.inl ⟨by rfl, ?hq8⟩) (by assumption) ?rq8
          case hq8 => (intro wq hSw; go_simp; (try with_reducible rfl))
          try simp only [Act.put, List.getElem_toArray, List.getElem_cons_zero, List.getElem_cons_succ, List.setIfInBounds_toArray, List.set_cons_zero, List.set_cons_succ]
          refine wpAnyH_take (i := 9) (v := ?vq9) rfl (by kernel_rfl) (by kernel_rfl) (by kernel_rfl) (fun _ _ _ h => h) (Or.inl ⟨by rfl, ?hq9⟩) (by assumption) ?rq9
          case hq9 => (intro wq hSw; go_simp; (try with_reducible rfl))
          try simp only [Act.put, List.getElem_toArray, List.getElem_cons_zero, List.getElem_cons_succ, List.setIfInBounds_toArray, List.set_cons_zero, List.set_cons_succ]
          refine wpAnyH_ready (rs := [10]) (by kernel_rfl) (by simp) ?_
          refine AllReadyH.cons (o := _) rfl (fun K hK => ?_) ?_
          · skip
            have o1 := HS.out.box.cell 0
            have f1 := HS.out.box.frozen 0
            go_simp
            have HE := hide HS.out.stored
            refine hK.out _ _ (HE.out.kp) (fun hHeld => ?_)
            clear hK K o1 f1
            try simp only [Act.put, List.getElem_toArray, List.getElem_cons_zero, List.getElem_cons_succ, List.setIfInBounds_toArray, List.set_cons_zero, List.set_cons_succ]
            refine wpAnyH_done (by kernel_rfl) ?_ _
            go_wp2_with fail
            go_ret
            exact HE.out.res
          exact AllReadyH.nil
        exact AllReadyH.nil
      exact AllReadyH.nil
    exact AllReadyH.nil
end Go.Proofs.YtokibbgahefkbaaGreatDoor.Fe
namespace Go.Proofs.YtokibbgahefkbaaGreatDoor.Fe
open Go.RowKit Go.Shelf

set_option maxHeartbeats 400000 in
theorem new_any (w : World) : Calls Tryz.prog 41 #[] w fun e w' => e = .returned (.pointer (some ⟨w.heap.size, 0, none⟩)) ∧ w' = w.alloc (.cells #[.slice none 0 0, .int .i64 0] 139) := by
  go_enter Tryz.func41, Tryz.ntmps41
  go_wp2
  go_ret
  exact ⟨rfl, rfl⟩
theorem Pk.new (w : World) : Pk (w.alloc (.cells #[.slice none 0 0, .int .i64 0] 139)) w.heap.size (.slice none 0 0) [] :=
  ⟨Whole.new w [.slice none 0 0, .int .i64 0] _, ⟨by simp [bv], .inl ⟨rfl, rfl⟩⟩⟩

theorem PutRes.from_ {W W1 : World} {bp : Nat} {v : Value} {zs : List Int} {e : Ending} {W' : World} (h : PutRes bp v zs W1 e W') (hb : Below W.heap.size W W1) : PutRes bp v zs W e W' := by
  obtain ⟨v', h1, h2, h3, h4⟩ := h
  exact ⟨v', h1, h2, (Kp.of_below hb).same h3, fun k hk => (h4 k hk).imp id (fun h => Nat.le_trans hb.size h)⟩
theorem Pk.below {W W' : World} {bp : Nat} {v : Value} {xs : List Int} (h : Pk W bp v xs) (hb : Below W.heap.size W W') : Pk W' bp v xs := h.kp (F := NoF) (Kp.of_below hb) (fun _ _ h => h.elim)
theorem put_puts (bp : Nat) (v : Value) (xs : List Int) (k : Nat) (n : Int) (W : World) (hpk : Pk W bp v xs) (hl : xs.length + k ≤ 1000000) (hk : k ≤ 8) (hn : 0 ≤ n ∧ n < 18446744073709551616) :
    Calls Tryz.prog 74 #[.pointer (some ⟨bp, 0, none⟩), .bool true, .func (.func 75) #[] #[.pointer (some ⟨W.heap.size, 0, none⟩), .pointer (some ⟨W.heap.size + 1, 0, none⟩)]]
      ((W.alloc (.cells #[.int .i64 k] 3)).alloc (.cells #[.int .u64 n] 70)) (PutRes bp v (xs ++ Pl.be k n) W) := by
  have ef : ∀ args w, (callFunc 75 args).run Tryz.prog w = .ok (.enter 75 args) w := enters_of Tryz.func75 (by kernel_rfl) rfl
  have hb : Below W.heap.size W ((W.alloc (.cells #[.int .i64 k] 3)).alloc (.cells #[.int .u64 n] 70)) := ((Below.refl _ _).alloc (Nat.le_refl _) _).alloc (by simp) _
  have z1 : (W.alloc (.cells #[.int .i64 k] 3)).heap.size = W.heap.size + 1 := by simp
  have c1 := (Whole.new W [.int .i64 k] 3).below (w' := (W.alloc (.cells #[.int .i64 k] 3)).alloc (.cells #[.int .u64 n] 70)) ((Below.refl (W.alloc (.cells #[.int .i64 k] 3)).heap.size _).alloc (Nat.le_refl _) _) (by show _ < (W.alloc (.cells #[.int .i64 k] 3)).heap.size; omega)
  have c2 := Whole.new (W.alloc (.cells #[.int .i64 k] 3)) [.int .u64 n] 70
  rw [z1] at c2
  change Whole ((W.alloc (.cells #[.int .i64 k] 3)).alloc (.cells #[.int .u64 n] 70)) _ _ _ at c2
  generalize (W.alloc (.cells #[.int .i64 k] 3)).alloc (.cells #[.int .u64 n] 70) = W2 at *
  refine (puts_any bp v xs (Pl.be k n) 75 _ W2 (hpk.below hb) (by rw [Pl.be_len]; exact hl) ef (fun W1 h1 => ?_)).mono fun e w' h => h.from_ hb
  exact putFn_any W.heap.size (W.heap.size + 1) k n W1 hk hn.1 hn.2 ((h1.cell (p := ⟨W.heap.size, 0, none⟩) c1.lt).trans (c1.cell 0)) ((h1.cell (p := ⟨W.heap.size + 1, 0, none⟩) c2.lt).trans (c2.cell 0))
set_option maxHeartbeats 1000000 in
set_option maxRecDepth 20000 in
/-- Put of a number of k bytes that fits -/
theorem put_go (bp : Nat) (v : Value) (xs : List Int) (k : Nat) (n : Int) (W : World) (hpk : Pk W bp v xs) (hl : xs.length + k ≤ 1000000) (hk : k = 1 ∨ k = 2 ∨ k = 4 ∨ k = 8) (hn0 : 0 ≤ n) (hn1 : n < 2 ^ (8 * k)) :
    Calls Tryz.prog 42 #[.pointer (some ⟨bp, 0, none⟩), .int .i64 k, .int .u64 n] W (PutRes bp v (xs ++ Pl.be k n) W) := by
  have HP := hide hpk
  have HW := fun (n : Int) W => hide (wide_any n W)
  have HH := hide hn1
  have HN := hide (show 0 ≤ n ∧ n < 18446744073709551616 from ⟨hn0, by rcases hk with rfl | rfl | rfl | rfl <;> omega⟩)
  clear hn1 hpk
  rcases hk with rfl | rfl | rfl | rfl
  · have hz : (n / 256 == 0) = true := beq_iff_eq.2 (Int.ediv_eq_zero_of_lt hn0 HH.out)
    go_enter Tryz.func42, Tryz.ntmps42
    go_wp2_with fail
    refine (HW _ _).out.mono ?_
    rintro e w1 ⟨rfl, rfl⟩
    have hw : Pl.wide 1 = true := rfl
    go_wp2_with fail
    refine (put_puts bp v xs 1 n W HP.out hl (by omega) HN.out).mono ?_
    rintro e w' ⟨v', rfl, hr⟩
    have HR := hide hr
    clear hr
    go_wp2_with fail
    go_ret
    exact ⟨v', rfl, HR.out⟩
  · have hz : (n / 65536 == 0) = true := beq_iff_eq.2 (Int.ediv_eq_zero_of_lt hn0 HH.out)
    go_enter Tryz.func42, Tryz.ntmps42
    go_wp2_with fail
    refine (HW _ _).out.mono ?_
    rintro e w1 ⟨rfl, rfl⟩
    have hw : Pl.wide 2 = true := rfl
    go_wp2_with fail
    refine (put_puts bp v xs 2 n W HP.out hl (by omega) HN.out).mono ?_
    rintro e w' ⟨v', rfl, hr⟩
    have HR := hide hr
    clear hr
    go_wp2_with fail
    go_ret
    exact ⟨v', rfl, HR.out⟩
  · have hz : (n / 4294967296 == 0) = true := beq_iff_eq.2 (Int.ediv_eq_zero_of_lt hn0 HH.out)
    go_enter Tryz.func42, Tryz.ntmps42
    go_wp2_with fail
    refine (HW _ _).out.mono ?_
    rintro e w1 ⟨rfl, rfl⟩
    have hw : Pl.wide 4 = true := rfl
    go_wp2_with fail
    refine (put_puts bp v xs 4 n W HP.out hl (by omega) HN.out).mono ?_
    rintro e w' ⟨v', rfl, hr⟩
    have HR := hide hr
    clear hr
    go_wp2_with fail
    go_ret
    exact ⟨v', rfl, HR.out⟩
  · go_enter Tryz.func42, Tryz.ntmps42
    go_wp2_with fail
    refine (HW _ _).out.mono ?_
    rintro e w1 ⟨rfl, rfl⟩
    have hw : Pl.wide 8 = true := rfl
    go_wp2_with fail
    refine (put_puts bp v xs 8 n W HP.out hl (by omega) HN.out).mono ?_
    rintro e w' ⟨v', rfl, hr⟩
    have HR := hide hr
    clear hr
    go_wp2_with fail
    go_ret
    exact ⟨v', rfl, HR.out⟩
end Go.Proofs.YtokibbgahefkbaaGreatDoor.Fe
namespace Go.Proofs.YtokibbgahefkbaaGreatDoor.Fe
open Go.RowKit Go.Shelf

/-- a string's bytes -/
def bs (s : ByteArray) : List Int := s.data.toList.map fun c => (c.toNat : Int)
theorem bs_len (s : ByteArray) : (bs s).length = s.size := by simp [bs]
set_option maxHeartbeats 1000000 in
set_option maxRecDepth 20000 in
theorem nameFn_any (a1 : Nat) (s : ByteArray) (w : World) (h1 : w.cell? ⟨a1, 0, none⟩ = some (.string s)) (hs : s.size < 256) :
    Calls Tryz.prog 76 #[.pointer (some ⟨a1, 0, none⟩)] w (Gives ((s.size : Int) :: bs s) w) := by
  obtain ⟨i0, hi, hz0, hz1, hz2⟩ := info_parts infoU8
  have b1 := cell_lt h1
  have HO0 := hide (World.ownsRow_lit (base := w.heap.size) (e := 5) (size := 1) w #[.int .u8 s.size] 1 (Nat.le_refl _) (by decide) rfl)
  go_enter Tryz.func76, Tryz.ntmps76
  go_wp2_with (refine Go.Lib.wpList_append_own_string _ rfl _ _ 69 9 rfl w.heap.size 5 i0 Tryz.underlying69 Tryz.underlying9 hi hz0 hz1 hz2 (.slice (some ⟨w.heap.size, 0, none⟩) 1 1) 1 [.int .u8 s.size] rfl HO0.out s rfl ?c1 ?c2 ?c3 ?_)
  case c1 => unfold maxLen; omega
  case c2 => omega
  intro v' w' ho hg _
  obtain ⟨A, c, rfl⟩ := owns_slice ho
  have HO := hide ho
  have HB := hide (((Below.refl w.heap.size w).alloc (Nat.le_refl _) (.cells #[.int .u8 s.size] 5)).grown hg (by simp) (fun g hg => by cases hg; exact Nat.le_refl _))
  clear ho hg
  go_wp2
  go_ret
  refine ⟨A, c, by rw [List.length_cons, bs_len, Nat.add_comm]; rfl, ?_, HB.out⟩
  have e : bv ((s.size : Int) :: bs s) = [Value.int .u8 s.size] ++ Go.Lib.strCells s := by simp [bv, bs, Go.Lib.strCells]
  rw [e]
  exact owns_mem HO.out
set_option maxHeartbeats 1000000 in
set_option maxRecDepth 20000 in
theorem name_any (bp : Nat) (v : Value) (xs : List Int) (s : ByteArray) (W : World) (hpk : Pk W bp v xs) (hl : xs.length + s.size + 1 ≤ 1000000) (hs : s.size < 256) :
    Calls Tryz.prog 43 #[.pointer (some ⟨bp, 0, none⟩), .string s] W (PutRes bp v (xs ++ (s.size : Int) :: bs s) W) := by
  have ef : ∀ args w, (callFunc 76 args).run Tryz.prog w = .ok (.enter 76 args) w := enters_of Tryz.func76 (by kernel_rfl) rfl
  have hc : Calls Tryz.prog 74 #[.pointer (some ⟨bp, 0, none⟩), .bool true, .func (.func 76) #[] #[.pointer (some ⟨W.heap.size, 0, none⟩)]] (W.alloc (.cells #[.string s] 9)) (PutRes bp v (xs ++ (s.size : Int) :: bs s) W) := by
    have hb : Below W.heap.size W (W.alloc (.cells #[.string s] 9)) := (Below.refl _ _).alloc (Nat.le_refl _) _
    have c1 := Whole.new W [.string s] 9
    change Whole (W.alloc (.cells #[.string s] 9)) _ _ _ at c1
    generalize W.alloc (.cells #[.string s] 9) = W2 at *
    refine (puts_any bp v xs ((s.size : Int) :: bs s) 76 _ W2 (hpk.below hb) (by rw [List.length_cons, bs_len]; omega) ef (fun W1 h1 => ?_)).mono fun e w' h => h.from_ hb
    exact nameFn_any W.heap.size s W1 ((h1.cell (p := ⟨W.heap.size, 0, none⟩) c1.lt).trans (c1.cell 0)) hs
  have HC := hide hc
  have hlt : decide ((s.size : Int) < 256) = true := by simp; omega
  clear hc hpk ef
  go_enter Tryz.func43, Tryz.ntmps43
  go_wp2_with fail
  refine HC.out.mono ?_
  rintro e w' ⟨v', rfl, hr⟩
  have HR := hide hr
  clear hr
  go_wp2_with fail
  go_ret
  exact ⟨v', rfl, HR.out⟩
end Go.Proofs.YtokibbgahefkbaaGreatDoor.Fe
namespace Go.Proofs.YtokibbgahefkbaaGreatDoor.Fe
open Go.RowKit Go.Shelf

section
variable {P : Program} (w : World)
/-- append of a slice that came in, at a plain region's list -/
theorem wpList_app {ops : Array Oper} {rest : List Oper} {o : Oper} {a : Act} {Q : Exit → Act → World → Prop} (hgd : o.guard = none) (s x : Operand) (t : TypeId)
    (ho : o.op = .call { callee := .builtin .append, args := #[s, x], argTypes := #[t, t] })
    (base : Nat) (e : TypeId) (i : TypeInfo) (z : Value) (size bytes : Nat) (ht : P.underlying t = some (.slice e)) (hi : P.info? e = some i) (hz : i.zero = some z)
    (hsize : i.size = size) (hby : i.bytes = bytes) (hzs : z.cells.size = size) (hsz : 0 < size)
    (v : Value) (n : Nat) (xs : List Value) (hs : a.eval s = v) (hown : w.ownsRow base e size v n xs)
    (A : Option Addr) (m c : Nat) (news : List Value) (hx : a.eval x = .slice A m c) (hl : news.length = m * size) (hA : Mem w w.heap.size A news) (h1 : ∀ u ∈ news, u.oneCell' = true)
    (h63 : n + m ≤ maxLen) (hbytes : (n + m) * bytes ≤ 140737488355328) (hbase : base ≤ w.heap.size)
    (h : ∀ A' c' w', w'.ownsRow base e size (.slice A' (n + m) c') (n + m) (xs ++ news) → w.grownBy w' v.ownBlock → (∀ g, (Value.slice A' (n + m) c').ownBlock = some g → v.ownBlock = some g ∨ w.heap.size ≤ g) → wpList P ops Q rest (a.put o.dst (.slice A' (n + m) c')) w') :
    wpList P ops Q (o :: rest) a w := by
  refine wpList_plain hgd fun K hK => ?_
  obtain ⟨A', c', w', hr, h2, h3, h4⟩ := run_app (P := P) w t o.type base e i z size bytes ht hi hz hsize hby hzs hsz v n xs hown A m c news hl hA h1 h63 hbytes hbase
  unfold Oper.wp execOp
  simp only [ho, resolve, invoke, builtin, Sem.run_bind, Sem.run_pure, Result.andThen_ok, List.map_toArray, List.map_cons, List.map_nil, hs, hx, hr]
  exact hK _ _ (h A' c' w' h2 h3 h4)
end
/-- a copy of bytes, in a row of its own -/
def Copied (xs : List Int) (w : World) (e : Ending) (w' : World) : Prop := ∃ v', e = .returned v' ∧ w'.ownsRow w.heap.size 5 1 v' xs.length (bv xs) ∧ Below w.heap.size w w'
set_option maxHeartbeats 1000000 in
set_option maxRecDepth 20000 in
theorem clone_any (A : Option Addr) (xs : List Int) (c : Nat) (w : World) (hm : Mem w w.heap.size A (bv xs)) (hl : xs.length ≤ 1000000) :
    Calls Tryz.prog 58 #[.slice A xs.length c] w (Copied xs w) := by
  obtain ⟨i0, hi, hz0, hz1, hz2⟩ := info_parts infoU8
  have q57 : ∀ (w : World) (a : Option Addr) (n c n' c' : Nat), (binOp .eql 69 (.slice a n c) (.slice none n' c')).run Tryz.prog w = .ok (.bool a.isNone) w := fun w a n c n' c' => Go.Lib.run_eql_slice_nil w _ _ a n c n' c' Tryz.underlying69
  have HM := hide hm
  clear hm
  cases A with
  | none =>
    have hx : xs = [] := by
      by_cases h : 0 < xs.length
      · obtain ⟨_, _, h, _⟩ := HM.out.get (by rw [bv_len]; exact h)
        cases h
      · exact List.eq_nil_of_length_eq_zero (by omega)
    subst hx
    go_enter Tryz.func58, Tryz.ntmps58
    go_wp2
    go_ret
    exact ⟨_, rfl, ⟨by simp [bv], .inl ⟨rfl, rfl⟩⟩, Below.refl _ _⟩
  | some ad =>
    have HO := hide (World.ownsRow_lit (base := w.heap.size) (e := 5) (size := 1) w #[] 0 (Nat.le_refl _) (by decide) rfl)
    have HM2 := hide ((HM.out.below ((Below.refl w.heap.size w).alloc (Nat.le_refl _) (.cells #[] 5))).mono (by simp : w.heap.size ≤ (w.alloc (.cells #[] 5)).heap.size))
    go_enter Tryz.func58, Tryz.ntmps58
    go_wp2_with (refine wpList_app _ rfl _ _ 69 rfl w.heap.size 5 i0 (.int .u8 0) 1 1 Tryz.underlying69 hi hz0 hz1 hz2 rfl (by decide) (.slice (some ⟨w.heap.size, 0, none⟩) 0 0) 0 [] rfl HO.out (some ad) xs.length c (bv xs) rfl ?c1 HM2.out (bv_one _) ?c2 ?c3 (by simp) ?_)
    case c1 => exact bv_len xs
    case c2 => unfold maxLen; omega
    case c3 => omega
    intro A' c' w' ho hg _
    have HO2 := hide ho
    have HB := hide (((Below.refl w.heap.size w).alloc (Nat.le_refl _) (.cells #[] 5)).grown hg (by simp) (fun g hg => by cases hg; exact Nat.le_refl _))
    clear ho hg
    go_wp2
    go_ret
    exact ⟨_, rfl, HO2.out, HB.out⟩
set_option maxHeartbeats 1000000 in
set_option maxRecDepth 20000 in
/-- Bytes of a packer without an error -/
theorem bytes_any (bp : Nat) (v : Value) (xs : List Int) (W : World) (hpk : Pk W bp v xs) (hl : xs.length ≤ 1000000) :
    Calls Tryz.prog 44 #[.pointer (some ⟨bp, 0, none⟩)] W fun e W' => ∃ v', e = .returned (.tuple #[v', .int .i64 0]) ∧ W'.ownsRow W.heap.size 5 1 v' xs.length (bv xs) ∧ Below W.heap.size W W' := by
  obtain ⟨A, c, rfl⟩ := owns_slice hpk.own
  have c0 := hpk.box.cell 0
  have c1 := hpk.box.cell 1
  have HC := hide (clone_any A xs c W (owns_mem hpk.own) hl)
  clear hpk
  go_enter Tryz.func44, Tryz.ntmps44
  go_wp2_with fail
  refine HC.out.mono ?_
  rintro e w' ⟨v', rfl, ho, hb⟩
  have HO := hide ho
  have HB := hide hb
  clear ho hb
  go_wp2_with fail
  go_ret2
  exact ⟨_, rfl, HO.out, HB.out⟩
end Go.Proofs.YtokibbgahefkbaaGreatDoor.Fe
namespace Go.Proofs.YtokibbgahefkbaaGreatDoor.Fe
open Go.RowKit Go.Shelf

/-- n bytes in block g -/
def InG (W : World) (g : Nat) (A : Option Addr) (xs : List Int) : Prop := 0 < xs.length → ∃ off, A = some ⟨g, off, none⟩ ∧ g < W.heap.size ∧ ∀ j (hj : j < xs.length), W.cell? ⟨g, off + j, none⟩ = some (.int .u8 xs[j])
/-- an opener: what is left of its bytes, which lie in block g, and its error -/
structure Opn (W : World) (bo g : Nat) (A : Option Addr) (c : Nat) (xs : List Int) (err : Int) : Prop where
  box : Whole W bo 124 [.slice A xs.length c, .int .i64 err]
  mem : InG W g A xs
  cap : xs.length ≤ c
  ne : bo ≠ g
theorem InG.kp {W W' : World} {g : Nat} {A : Option Addr} {xs : List Int} {F : Nat → Prop} (h : InG W g A xs) (hk : Kp F W W') (hn : ¬ F g) : InG W' g A xs := fun h0 => by
  obtain ⟨off, e, hg, hc⟩ := h h0
  exact ⟨off, e, Nat.lt_of_lt_of_le hg hk.size, fun j hj => (hk.cell (p := ⟨g, off + j, none⟩) hg hn).trans (hc j hj)⟩
theorem Opn.kp {W W' : World} {bo g : Nat} {A : Option Addr} {c : Nat} {xs : List Int} {err : Int} {F : Nat → Prop} (h : Opn W bo g A c xs err) (hk : Kp F W W') (h1 : ¬ F bo) (h2 : ¬ F g) : Opn W' bo g A c xs err :=
  ⟨h.box.kp hk h1, h.mem.kp hk h2, h.cap, h.ne⟩
theorem InG.mem {W : World} {g : Nat} {A : Option Addr} {xs : List Int} (h : InG W g A xs) : Mem W W.heap.size A (bv xs) := fun h0 => by
  rw [bv_len] at h0
  obtain ⟨off, e, hg, hc⟩ := h h0
  exact ⟨g, off, e, hg, fun i hi => by rw [bv_len] at hi; rw [hc i hi, bv_get xs i hi]⟩
end Go.Proofs.YtokibbgahefkbaaGreatDoor.Fe
namespace Go.Proofs.YtokibbgahefkbaaGreatDoor.Fe
open Go.RowKit Go.Shelf

end Go.Proofs.YtokibbgahefkbaaGreatDoor.Fe
namespace Go.Proofs.YtokibbgahefkbaaGreatDoor.Fe
open Go.RowKit Go.Shelf

def OnlyF (b : Nat) : Nat → Prop := fun k => k = b
theorem Kp.set_only (w : World) (bo i : Nat) (v : Value) : Kp (OnlyF bo) w (w.setCell ⟨bo, i, none⟩ v) := (Kp.refl (OnlyF bo) w).setCell (p := ⟨bo, i, none⟩) (.inl rfl) v
theorem InG.set_ {W : World} {g : Nat} {A : Option Addr} {xs : List Int} (h : InG W g A xs) {bo : Nat} (hne : bo ≠ g) (i : Nat) (v : Value) : InG (W.setCell ⟨bo, i, none⟩ v) g A xs :=
  h.kp (Kp.set_only W bo i v) (fun e => hne e.symm)
theorem Mem.take {W : World} {g : Nat} {A : Option Addr} {xs : List Int} (h : InG W g A xs) (n : Nat) : Mem W W.heap.size A (bv (xs.take n)) := by
  have := h.mem.cut n
  rwa [show (bv xs).take n = bv (xs.take n) by simp [bv]] at this
end Go.Proofs.YtokibbgahefkbaaGreatDoor.Fe
namespace Go.Proofs.YtokibbgahefkbaaGreatDoor.Fe
open Go.RowKit Go.Shelf

theorem conv_str {A : Option Addr} {xs : List Int} {B : Nat} {w : World} (hm : Mem w B A (bv xs)) (c : Nat) : (convert 69 9 (.slice A xs.length c)).run Tryz.prog w = .ok (.string (strOfNums xs)) w := by
  rcases Nat.eq_zero_or_pos xs.length with hn | hn
  · obtain rfl : xs = [] := List.eq_nil_of_length_eq_zero hn
    show (convert 69 9 (.slice A 0 c)).run Tryz.prog w = .ok (.string ByteArray.empty) w
    rw [run_convert_bytes_string (P := Tryz.prog) w 69 9 5 _ 0 c Tryz.underlying69 Tryz.underlying5 Tryz.underlying9]
    cases A <;> simp [Conv.bytesToString, loadCells, loadCellsFrom]
  · obtain ⟨b, o, rfl, _, hc⟩ := byt_at hm hn
    exact run_convert_bytes_arg (P := Tryz.prog) w 69 5 Tryz.underlying69 Tryz.underlying5 b o xs.length c xs rfl (fun i hi => by rw [hc i hi]; simp [List.getD, List.getElem?_eq_getElem hi]) 9 Tryz.underlying9
end Go.Proofs.YtokibbgahefkbaaGreatDoor.Fe
namespace Go.Proofs.YtokibbgahefkbaaGreatDoor.Fe
open Go.RowKit Go.Shelf

/-- an opener behind a taking: the rest is left -/
def OpnTo (w : World) (bo g : Nat) (rest : List Int) (err : Int) (w' : World) : Prop := ∃ A' c', Opn w' bo g A' c' rest err ∧ Kp (OnlyF bo) w w'
end Go.Proofs.YtokibbgahefkbaaGreatDoor.Fe
namespace Go.Proofs.YtokibbgahefkbaaGreatDoor.Fe
open Go.RowKit

/-- every block but those of Ex lies as it lay -/
def KeptX (Ex : Nat → Prop) (W W' : World) : Prop := Below 0 W W' ∧ ∀ k, k < W.heap.size → ¬ Ex k → W'.heap[k]? = W.heap[k]?
theorem KeptX.refl (Ex : Nat → Prop) (W : World) : KeptX Ex W W := ⟨Below.refl _ _, fun _ _ _ => rfl⟩
theorem KeptX.size {Ex : Nat → Prop} {W W' : World} (h : KeptX Ex W W') : W.heap.size ≤ W'.heap.size := h.1.size
theorem KeptX.trans {Ex : Nat → Prop} {A B C : World} (h : KeptX Ex A B) (k : KeptX Ex B C) : KeptX Ex A C :=
  ⟨h.1.trans k.1, fun i hi hE => (k.2 i (Nat.lt_of_lt_of_le hi h.size) hE).trans (h.2 i hi hE)⟩
theorem KeptX.mono {Ex Ey : Nat → Prop} {W W' : World} (h : KeptX Ex W W') (hE : ∀ k, Ex k → Ey k) : KeptX Ey W W' := ⟨h.1, fun k hk hn => h.2 k hk (fun e => hn (hE k e))⟩
theorem KeptX.alloc (Ex : Nat → Prop) (W : World) (o : Obj) : KeptX Ex W (W.alloc o) := ⟨(Below.refl 0 W).alloc (Nat.zero_le _) o, fun k hk _ => Below.heap_alloc W o k hk⟩
theorem KeptX.put (Ex : Nat → Prop) (W : World) (l : Nat) (o : Obj) (h : Ex l) : KeptX Ex W (W.putObj l o) :=
  ⟨(Below.refl 0 W).grown (grownBy_putObj' W l o) (Nat.zero_le _) (fun _ _ => Nat.zero_le _), fun _ _ hn => World.putObj_heap_other (fun e => hn (e ▸ h))⟩
theorem KeptX.setCell (Ex : Nat → Prop) (W : World) (p : Addr) (v : Value) (h : Ex p.block) : KeptX Ex W (W.setCell p v) :=
  ⟨(Below.refl 0 W).setCell (Nat.zero_le _) v, fun k _ hn => Below.heap_setCell W p v k (fun e => hn (e ▸ h))⟩
theorem KeptX.drew {Ex : Nat → Prop} {A W : World} (h : KeptX Ex A W) : KeptX Ex A W.drew := ⟨h.1.drew, h.2⟩
theorem KeptX.cell {Ex : Nat → Prop} {W W' : World} (h : KeptX Ex W W') {b : Nat} (hb : b < W.heap.size) (hE : ¬ Ex b) (o : Nat) : W'.cell? ⟨b, o, none⟩ = W.cell? ⟨b, o, none⟩ := World.cell?_of_block (h.2 b hb hE)
theorem KeptX.below {Ex : Nat → Prop} {W W' : World} {B : Nat} (h : KeptX Ex W W') (hB : B ≤ W.heap.size) (hE : ∀ k, k < B → ¬ Ex k) : Below B W W' := ⟨h.1.os, h.1.tape, h.1.output, h.1.size, fun k hk => h.2 k (by omega) (hE k hk)⟩
theorem below_put {B l : Nat} (W : World) (o : Obj) (h : B ≤ l) (hB : B ≤ W.heap.size) : Below B W (W.putObj l o) := (Below.refl B W).grown (grownBy_putObj' W l o) hB (fun k e => by cases e; exact h)

/-- J abides whatever is done in new blocks, and in the blocks of St. -/
def AbidesE {β : Type} (St : Nat → Prop) (J : β → World → Prop) : Prop := ∀ s W W', J s W → KeptX St W W' → J s W'
theorem KeptX.of_below {St : Nat → Prop} {W W' : World} (h : Below W.heap.size W W') : KeptX St W W' :=
  ⟨⟨h.os, h.tape, h.output, h.size, fun _ hk => absurd hk (Nat.not_lt_zero _)⟩, fun k hk _ => h.block k hk⟩
theorem KeptX.kp {F : Nat → Prop} {W W' : World} (h : KeptX F W W') : Kp F W W' := ⟨h.1.os, h.1.tape, h.1.output, h.1.size, h.2⟩

variable {P : Program} {n : Nat}

/-- **THE LAW.** -/
theorem range_all {α : Type} {g : Operand} {ps : Array Tmp} {assign body : Code} {Q : Exit → Act → World → Prop} {a : Act} {w : World} {gf : Nat} {lb : Array Value}
    (hg : a.eval g = .func (.func gf) #[] lb) (eg : ∀ args w, (callFunc gf args).run P w = .ok (.enter gf args) w) (encs : α → Array Value) (hps : ∀ x, (encs x).size = ps.size)
    (xs : List α) (Ex St : Nat → Prop) (hEx : ∀ k, Ex k → k ≠ w.heap.size ∧ k ≠ w.heap.size + 1) (hSt : ∀ k, St k → k < w.heap.size)
    (hseq : ∀ (J : List α → World → Prop) (W : World), Below w.heap.size w W → W.heap.size = w.heap.size + 2 → AbidesE St J →
      (∀ pre x W1, J pre W1 → (pre ++ [x]) <+: xs → YieldAt Fence.wide (n - 1 - 1) P (w.heap.size + 1) (encs x) W1 (fun e W' =>
        e = .returned (.bool true) ∧ J (pre ++ [x]) W' ∧ KeptX (fun k => Ex k ∨ k = w.heap.size ∨ k = w.heap.size + 1) W1 W')) → J [] W →
      CallsIn Fence.wide (n - 1) P gf (#[.func (.yield (w.heap.size + 1)) #[] #[]] ++ lb) W fun e W' => (∃ v, e = .returned v) ∧ J xs W')
    (I : List α → World → Prop) (hI : AbidesE (fun k => St k ∨ k = w.heap.size ∨ k = w.heap.size + 1) I) (h0 : I [] w)
    (Ax : α → Act → World → Prop) (hAx : ∀ x a' W W', Ax x a' W → (∀ k, k ≠ w.heap.size + 1 → W'.heap[k]? = W.heap[k]?) → Ax x a' W')
    (hassign : ∀ (pre : List α) (x : α) (W : World) (K : Act → World → Prop), I pre W → w.heap.size + 2 ≤ W.heap.size → (∀ a' W', KeptX (fun _ => False) W W' → Ax x a' W' → K a' W') →
      assign.wpIn (Fence.wide.inRound (w.heap.size + 1)) (n - 1 - 1) P (Exit.then K (fun _ _ _ => False)) { tmps := (ps.zip (encs x)).foldl (fun t (p, v) => t.setIfInBounds p v) a.tmps, defers := [] } W)
    (hbody : ∀ (pre : List α) (x : α) (a' : Act) (W : World), w.heap.size + 2 ≤ W.heap.size → I pre W → Ax x a' W → (pre ++ [x]) <+: xs →
      body.wpIn (Fence.wide.inRound (w.heap.size + 1)) (n - 1 - 1) P (Exit.then (fun _ W' => KeptX Ex W W' ∧ I (pre ++ [x]) W') (fun _ _ _ => False)) a' W)
    (hdone : ∀ W, w.heap.size + 2 ≤ W.heap.size → I xs W → W.heap[w.heap.size]? = some (.deferred (some [])) → Q .normal { a with defers := { target := .collected w.heap.size, args := #[] } :: a.defers } W) :
    (Code.rangeFunc g ps assign body).wpIn Fence.wide n P Q a w := by
  refine wpIn_rangeFunc ?_
  intro fn hfn
  obtain ⟨rec, hrec⟩ : ∃ rec : LoopState → Option Code → Loop, rec = fun st pe => { state := st, pending := pe, fn, tmps := a.tmps, params := ps, assign, body, defers := w.heap.size } := ⟨_, rfl⟩
  obtain ⟨W1, hW1⟩ : ∃ W1, (w.alloc (.deferred (some []))).alloc (.loop (rec .ready none)) = W1 := ⟨_, rfl⟩
  have hz1 : W1.heap.size = w.heap.size + 2 := by rw [← hW1]; simp
  have hL1 : W1.heap[w.heap.size + 1]? = some (.loop (rec .ready none)) := by
    have := World.alloc_heap_new (w.alloc (.deferred (some []))) (.loop (rec .ready none))
    rwa [World.size_alloc, hW1] at this
  have hK1 : W1.heap[w.heap.size]? = some (.deferred (some [])) := by
    rw [← hW1]; exact (Below.heap_alloc _ _ _ (by simp)).trans (World.alloc_heap_new w _)
  have hb1 : Below w.heap.size w W1 := by
    rw [← hW1]; exact ((Below.refl _ w).alloc (Nat.le_refl _) _).alloc (by simp) _
  have hput : ∀ (W : World) (o : Obj), KeptX (fun k => St k ∨ k = w.heap.size ∨ k = w.heap.size + 1) W (W.putObj (w.heap.size + 1) o) := fun W o => KeptX.put _ W _ o (.inr (.inr rfl))
  refine ⟨w.heap.size + 1, [{ target := .collected w.heap.size, args := #[] }], W1, { target := .fn (.func gf) lb, args := #[.func (.yield (w.heap.size + 1)) #[] #[]] }, W1, gf,
    #[.func (.yield (w.heap.size + 1)) #[] #[]] ++ lb, W1, ?_, ?_, ?_, ?_, ?_, ?_⟩
  · rw [← hW1, hrec]; exact run_enterLoop_outer _ _ _ _ _
  · simp only [resolve, hg]
    simp [go_sem]
  · exact fun _ _ => trivial
  · simp [invoke, go_sem, eg]
  · intro h; cases h
  · refine (hseq (fun pre W => I pre W ∧ w.heap.size + 2 ≤ W.heap.size ∧ W.heap[w.heap.size + 1]? = some (.loop (rec .ready none)) ∧ W.heap[w.heap.size]? = some (.deferred (some [])))
      W1 hb1 hz1 ?_ ?_ ⟨hI _ _ _ h0 (KeptX.of_below hb1), by omega, hL1, hK1⟩).mono ?_
    · rintro s A B ⟨h1, h2, h3, h4⟩ hb
      exact ⟨hI _ _ _ h1 (hb.mono (fun k hk => .inl hk)), Nat.le_trans h2 hb.size, (hb.2 _ (by omega) (fun e => by have := hSt _ e; omega)).trans h3, (hb.2 _ (by omega) (fun e => by have := hSt _ e; omega)).trans h4⟩
    · -- one round
      rintro pre x W ⟨hi, hz, hl, hk⟩ hpre
      have hy := run_yield (P := P) (args := encs x) hl (by rw [hrec]; exact hps x)
      rw [hrec] at hy
      refine ⟨fn, _, assign, body, hy, roundIn_of_wpIn hfn (hassign pre x W _ hi hz ?_)⟩
      clear hy
      intro a' Wa hka hax
      have hza : w.heap.size + 2 ≤ Wa.heap.size := Nat.le_trans hz hka.size
      have hla : Wa.heap[w.heap.size + 1]? = some (.loop (rec .ready none)) := (hka.2 _ (by omega) (by simp)).trans hl
      have hda : Wa.heap[w.heap.size]? = some (.deferred (some [])) := (hka.2 _ (by omega) (by simp)).trans hk
      have hia : I pre Wa := hI _ _ _ hi (hka.mono (fun _ h => h.elim))
      obtain ⟨Wb, hWb⟩ : ∃ Wb, Wb = Wa.putObj (w.heap.size + 1) (.loop { rec .ready none with state := .busy }) := ⟨_, rfl⟩
      have hzb : Wb.heap.size = Wa.heap.size := by rw [hWb]; simp
      have hlb : Wb.heap[w.heap.size + 1]? = some (.loop { rec .ready none with state := .busy }) := by rw [hWb]; exact World.putObj_heap_same (by omega)
      have hdb : Wb.heap[w.heap.size]? = some (.deferred (some [])) := by rw [hWb]; exact (World.putObj_heap_other (by omega)).trans hda
      have hib : I pre Wb := by rw [hWb]; exact hI _ _ _ hia (hput Wa _)
      have hkb : KeptX (fun k => Ex k ∨ k = w.heap.size ∨ k = w.heap.size + 1) W Wb := by
        rw [hWb]; exact (hka.mono (fun _ h => h.elim)).trans (KeptX.put _ _ _ _ (.inr (.inr rfl)))
      refine ⟨Wb, by rw [hWb]; exact run_beginRound hla (by rw [hrec]), ?_⟩
      refine wpIn_mono (hbody pre x a' Wb (by omega) hib (hAx x a' Wa Wb hax (fun k hk => by rw [hWb]; exact World.putObj_heap_other hk)) hpre) ?_
      rintro e a3 W3 hp
      cases e with
      | normal =>
        obtain ⟨hk3, hi3⟩ := hp
        have hz3 := hk3.size
        have hl3 : W3.heap[w.heap.size + 1]? = some (.loop { rec .ready none with state := .busy }) := (hk3.2 _ (by omega) (fun h => (hEx _ h).2 rfl)).trans hlb
        have hd3 : W3.heap[w.heap.size]? = some (.deferred (some [])) := (hk3.2 _ (by omega) (fun h => (hEx _ h).1 rfl)).trans hdb
        have hr := run_endRound (P := P) none hl3
        rw [hrec] at hr ⊢
        refine ⟨_, _, hr, rfl, ⟨hI _ _ _ hi3 (hput W3 _), by simp; omega, World.putObj_heap_same (by omega), (World.putObj_heap_other (by omega)).trans hd3⟩, ?_⟩
        exact (hkb.trans (hk3.mono fun _ h => .inl h)).trans (KeptX.put _ _ _ _ (.inr (.inr rfl)))
      | ret => exact hp.elim
      | exit id => exact hp.elim
      | goto t => exact hp.elim
      | panic ch => exact hp.elim
      | outgrown => exact hp.elim
    · -- behind the iterator
      rintro e W2 ⟨⟨v, rfl⟩, ⟨hi, hz, hl, hk⟩⟩
      have he := run_endLoop (P := P) hl (by rw [hrec]; simp)
      rw [hrec] at he
      exact ⟨none, _, he, hdone _ (by simp; omega) (hI _ _ _ hi (hput W2 _)) ((World.putObj_heap_other (by omega)).trans hk)⟩

/-- the marks of ranges that have ended -/
def marks (Ds : List Nat) : List Deferred := Ds.map fun D => { target := .collected D, args := #[] }
/-- they stand in memory, each once -/
structure Marked (w : World) (B : Nat) (Ds : List Nat) : Prop where
  nodup : Ds.Nodup
  low : ∀ D ∈ Ds, B ≤ D
  at_ : ∀ D ∈ Ds, w.heap[D]? = some (.deferred (some []))
theorem leave_marks {fn : Func} {tmps : Array Value} {R : Ending → World → Prop} {B : Nat} : ∀ (Ds : List Nat) (w : World), Marked w B Ds → B ≤ w.heap.size →
    (∀ w', Below B w w' → (∀ k, k ∉ Ds → w'.heap[k]? = w.heap[k]?) → ∃ v, (results fn tmps).run P w' = .ok v w' ∧ R (.returned v) w') → LeavesInM Fence.wide n P fn tmps R (marks Ds) .returning w
  | [], w, _, _, h => h w (Below.refl _ _) (fun _ _ => rfl)
  | D :: Ds, w, hm, hB, h => by
    obtain ⟨hD, hnd⟩ := List.nodup_cons.1 hm.nodup
    have hat := hm.at_ D (by simp)
    refine ⟨by simp, .inl ⟨D, _, rfl, run_takeDeferred hat, ?_⟩⟩
    have hb : Below B w (w.putObj D (.deferred none)) := below_put w _ (hm.low D (by simp)) hB
    refine leave_marks Ds _ ⟨hnd, fun E hE => hm.low E (by simp [hE]), fun E hE => ?_⟩ (by simp; exact hB) fun w' h1 h2 => h w' (hb.trans h1) fun k hk => ?_
    · exact (World.putObj_heap_other (fun e => hD (by rw [← e]; exact hE))).trans (hm.at_ E (by simp [hE]))
    · simp only [List.mem_cons, not_or] at hk
      exact (h2 k hk.2).trans (World.putObj_heap_other hk.1)
end Go.Proofs.YtokibbgahefkbaaGreatDoor.Fe
