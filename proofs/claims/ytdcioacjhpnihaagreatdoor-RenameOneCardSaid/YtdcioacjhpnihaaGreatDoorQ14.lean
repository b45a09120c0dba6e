/- Calls without addresses: run once in an empty memory, they say what they give in any. Tables of such calls. Numbers of nine groups: times. -/
import Derived.Test.YtdcioacjhpnihaaGreatDoorQ8
import Derived.Test.YtdcioacjhpnihaaGreatDoorQ12
import Derived.Deep.DeepCutAuto
import Derived.Deep.QuietTactic
import Derived.BigQuiet
import Derived.WalkMore
import Derived.ProofKit
import Derived.Carry
import Derived.Deep.WholeRow
import Derived.Laws.OwnMore
import Derived.IntWalk
import Derived.WalkKit
import Derived.Tactics
set_option linter.all false
namespace Go.Proofs.YtdcioacjhpnihaaGreatDoor
open Go
noncomputable section

/-- **a call without addresses, run once in an empty memory, gives that anywhere** -/
theorem pure_ok {E : Env} (hE : E.Ok) (hG : E.C.G ≤ 100) {N : Nat} {f : FuncId} {args : List Value} {v : Value} {s0 : AS} (hrun : wCall E (wCode E N) f args ⟨.leaf, 100⟩ = some (v, s0)) (ha : args.all flat = true) (hv : flat2 v = true) (s : AS) : CallOk E f args s v s := by
  obtain ⟨c1, c2⟩ := fCall_ok hE (fCode_ok hE N) _ _ _ _ _ (wCall_ok (wCode_ok hE.C N) _ _ _ _ hrun)
  refine ⟨c1, fun ι w args' hr hx => ?_⟩
  let ρ : Nat → Option Nat := fun j => if j < 100 then some j else none
  have hz : ∀ j o, (⟨.leaf, 100⟩ : AS).mem.get j = some o → False := fun j o h => by
    have h : (T.leaf : T Obj).get j = some o := h
    rw [T.get_leaf] at h
    cases h
  have hrep : Rep E.P E.C.G (renE ρ ι) (⟨.leaf, 100⟩ : AS).mem w := memo_rep hr (fun g hg => if_pos (by omega)) (if_pos (by decide)) (show 15 < 100 by decide) (fun j hj => if_neg (by
    have hj : 100 ≤ j := hj
    omega)) (fun j o h => (hz j o h).elim) (fun i j q h => by
    obtain ⟨o, ho⟩ := Option.ne_none_iff_exists'.1 h
    exact (hz i o ho).elim)
  have hargs : VRl (renE ρ ι) args args' := ⟨hx.1, fun i u u' e1 e2 => by
    have hf := List.all_eq_true.1 ha u (List.mem_of_getElem? e1)
    rw [VR.flatE hf (hx.2 i u u' e1 e2)]
    exact VR.flat _ hf⟩
  refine (c2 _ _ _ hrep hargs).mono ?_
  rintro e w' ⟨ι', v', rfl, ht, hv'⟩
  refine ⟨ι, v', rfl, memo_back hr (if_pos (by decide)) (show 15 < 100 by decide) (fun j o h => (hz j o h).elim) ht fun j o h => (hz j o h).elim, ?_⟩
  rw [VR.flat2E hv hv']
  exact VR.flat2 ι hv
/-- **a call without addresses, run once in the memory of the tables, gives that wherever they lie** -/
def tabG (E : Env) (gl : ML) (N : Nat) (f : FuncId) (args : List Value) (v : Value) : Bool := Option.rec (motive := fun _ => Bool) false (fun r => Prod.rec (motive := fun _ => Bool) (fun u s => Bool.rec (motive := fun _ => Bool) false (holds s gl) (veqA u v)) r) (wCall E (wCode E N) f args ⟨putM gl .leaf, 100⟩)
theorem tabG_ok {E : Env} (hE : E.Ok) (hG : E.C.G ≤ 100) {gl : ML} (hlt : ∀ x ∈ gl, x.1 < 100) (hrow : ∀ x ∈ gl, rowF x.2) {N : Nat} {f : FuncId} {args : List Value} {v : Value} (hB : tabG E gl N f args v = true) (ha : args.all flat = true) (hv : flat2 v = true) {s : AS} (hs : ∀ x ∈ gl, s.h.get x.1 = some x.2) : CallOk E f args s v s := by
  unfold tabG at hB
  cases hrun : wCall E (wCode E N) f args ⟨putM gl .leaf, 100⟩ with
  | none => rw [hrun] at hB; cases hB
  | some r =>
  obtain ⟨u, s0⟩ := r
  rw [hrun] at hB
  obtain ⟨q1, q2⟩ := bbrec hB
  have hq := veq_ok 8 _ _ (veqA_ok q1)
  subst hq
  have hh := holds_ok q2
  obtain ⟨c1, c2⟩ := fCall_ok hE (fCode_ok hE N) _ _ _ _ _ (wCall_ok (wCode_ok hE.C N) _ _ _ _ hrun)
  refine ⟨c1, fun ι w args' hr hx => ?_⟩
  let ρ : Nat → Option Nat := fun j => if j < 100 then some j else none
  have hget : ∀ j o, (⟨putM gl .leaf, 100⟩ : AS).mem.get j = some o → (j, o) ∈ gl := fun j o h => putM_mem (l := gl) (fun x hx => by have := hlt x hx; omega) h
  have hd : ∀ j o, (⟨putM gl .leaf, 100⟩ : AS).mem.get j = some o → ∃ i, ρ j = some i ∧ s.mem.get i = some o ∧ rowF o := fun j o h => by
    have hm := hget j o h
    exact ⟨j, if_pos (hlt _ hm), hs _ hm, hrow _ hm⟩
  have hrep : Rep E.P E.C.G (renE ρ ι) (⟨putM gl .leaf, 100⟩ : AS).mem w := memo_rep hr (fun g hg => if_pos (by omega)) (if_pos (by decide)) (show 15 < 100 by decide) (fun j hj => if_neg (by
    have hj : 100 ≤ j := hj
    omega)) hd (fun i j q _ _ e1 e2 => by
      simp only [ρ] at e1 e2
      split at e1
      · split at e2
        · cases e1; cases e2; rfl
        · cases e2
      · cases e1)
  have hargs : VRl (renE ρ ι) args args' := ⟨hx.1, fun i u u' e1 e2 => by
    have hf := List.all_eq_true.1 ha u (List.mem_of_getElem? e1)
    rw [VR.flatE hf (hx.2 i u u' e1 e2)]
    exact VR.flat _ hf⟩
  refine (c2 _ _ _ hrep hargs).mono ?_
  rintro e w' ⟨ι', v', rfl, ht, hv'⟩
  refine ⟨ι, v', rfl, memo_back hr (if_pos (by decide)) (show 15 < 100 by decide) hd ht fun j o h => hh _ (hget j o h), ?_⟩
  rw [VR.flat2E hv hv']
  exact VR.flat2 ι hv
/-! ### numbers of nine groups of 16 bits -/
def tStep (o x y c : Nat) : Nat := Nat.mod (Nat.add (Nat.mod (Nat.add o (Nat.mod (Nat.mul x y) 18446744073709551616)) 18446744073709551616) c) 18446744073709551616
def rowT (x : Nat) : List Nat → List Nat → Nat → List Nat := List.rec (motive := fun _ => List Nat → Nat → List Nat) (fun _ _ => []) fun o os ih bs c => List.rec (motive := fun _ => List Nat) (o :: os) (fun b bs _ => Nat.mod (tStep o x b c) 65536 :: ih bs (Nat.div (tStep o x b c) 65536)) bs
def timesT (bs : List Nat) : List Nat → List Nat → List Nat := List.rec (motive := fun _ => List Nat → List Nat) (fun os => os) fun a _ ih os => List.rec (motive := fun _ => List Nat) [] (fun o os _ => o :: ih os) (rowT a os bs 0)
def timesL (a b : List Nat) : List Nat := timesT b a [0, 0, 0, 0, 0, 0, 0, 0, 0]
/-- a row of numbers of 64 bits -/
def natUs : List Value → Option (List Nat) := List.rec (motive := fun _ => Option (List Nat)) (some []) fun v _ ih => IV.rec (motive := fun _ => Option (List Nat)) none (fun k m => Bool.rec (motive := fun _ => Option (List Nat)) none (Option.rec (motive := fun _ => Option (List Nat)) none (fun l => some (m :: l)) ih) (Nat.beq (kidx k) (kidx .u64))) (xInt v)
theorem natUs_ok : ∀ {l : List Value} {ns : List Nat}, natUs l = some ns → l = ints .u64 ns
  | [], ns, h => by
    have h : (some [] : Option (List Nat)) = some ns := h
    cases h
    rfl
  | v :: l, ns, h => by
    have h : (IV.rec (motive := fun _ => Option (List Nat)) none (fun k m => Bool.rec (motive := fun _ => Option (List Nat)) none (Option.rec (motive := fun _ => Option (List Nat)) none (fun l => some (m :: l)) (natUs l)) (Nat.beq (kidx k) (kidx .u64))) (xInt v) : Option (List Nat)) = some ns := h
    cases h1 : xInt v with
    | no => rw [h1] at h; cases h
    | nat k m =>
      rw [h1] at h
      cases h2 : Nat.beq (kidx k) (kidx .u64) with
      | false => simp only [h2] at h; cases h
      | true =>
        simp only [h2] at h
        cases h3 : natUs l with
        | none => simp only [h3] at h; cases h
        | some l' =>
          simp only [h3] at h
          cases h
          rw [xInt_ok h1, kidx_inj h2, natUs_ok h3]
          rfl
def xTimes (args : List Value) (s : AS) : Option (Value × AS) := match args with
  | [.agg a, .agg b] => Option.rec (motive := fun _ => Option (Value × AS)) none (fun l => Option.rec (motive := fun _ => Option (Value × AS)) none (fun r => Bool.rec (motive := fun _ => Option (Value × AS)) none (Bool.rec (motive := fun _ => Option (Value × AS)) none (some (.agg ⟨ints .u64 (timesL l r)⟩, s)) (Nat.beq (llen l) 9)) (Nat.beq (llen r) 9)) (natUs (arrL b))) (natUs (arrL a))
  | _ => none
/-- calls of two numbers that give a number -/
def xRoot (l : List (Nat × Nat × Nat)) (args : List Value) (s : AS) : Option (Value × AS) := match args with
  | [x, y] => IV.rec (motive := fun _ => Option (Value × AS)) none (fun j p => IV.rec (motive := fun _ => Option (Value × AS)) none (fun k q => Bool.rec (motive := fun _ => Option (Value × AS)) none (Bool.rec (motive := fun _ => Option (Value × AS)) none
    (List.rec (motive := fun _ => Option (Value × AS)) none (fun e _ ih => Bool.rec (motive := fun _ => Option (Value × AS)) ih (Bool.rec (motive := fun _ => Option (Value × AS)) ih (some (.int .u32 (.ofNat e.2.2), s)) (Nat.beq q e.2.1)) (Nat.beq p e.1)) l) (Nat.beq (kidx k) (kidx .i64))) (Nat.beq (kidx j) (kidx .u64))) (xInt y)) (xInt x)
  | _ => none
def rootB (E : Env) (f : FuncId) (e : Nat × Nat × Nat) : Bool := Option.rec (motive := fun _ => Bool) false (fun r => veqA r.1 (.int .u32 (.ofNat e.2.2))) (wCall E (wCode E 1000000) f [.int .u64 (.ofNat e.1), .int .i64 (.ofNat e.2.1)] ⟨.leaf, 100⟩)
theorem rootB_ok {E : Env} (hE : E.Ok) (hG : E.C.G ≤ 100) {f : FuncId} {e : Nat × Nat × Nat} (h : rootB E f e = true) (s : AS) : CallOk E f [.int .u64 (.ofNat e.1), .int .i64 (.ofNat e.2.1)] s (.int .u32 (.ofNat e.2.2)) s := by
  unfold rootB at h
  cases hrun : wCall E (wCode E 1000000) f [.int .u64 (.ofNat e.1), .int .i64 (.ofNat e.2.1)] ⟨.leaf, 100⟩ with
  | none => rw [hrun] at h; cases h
  | some r =>
    rw [hrun] at h
    obtain ⟨u, s0⟩ := r
    have hv := veq_ok 8 _ _ (veqA_ok h)
    subst hv
    exact pure_ok hE hG hrun rfl rfl s
theorem xRoot_ok {E : Env} (hE : E.Ok) (hG : E.C.G ≤ 100) {f : FuncId} {l : List (Nat × Nat × Nat)} (hl : ∀ e ∈ l, rootB E f e = true) {args : List Value} {s s' : AS} {v : Value} (h : xRoot l args s = some (v, s')) : CallOk E f args s v s' := by
  unfold xRoot at h
  split at h
  · rename_i x y
    cases h1 : xInt x with
    | no => rw [h1] at h; cases h
    | nat j p =>
      rw [h1] at h
      simp only at h
      cases h2 : xInt y with
      | no => rw [h2] at h; cases h
      | nat k q =>
        rw [h2] at h
        simp only at h
        cases h3 : Nat.beq (kidx j) (kidx .u64) with
        | false => rw [h3] at h; cases h
        | true =>
          rw [h3] at h
          simp only at h
          cases h4 : Nat.beq (kidx k) (kidx .i64) with
          | false => rw [h4] at h; cases h
          | true =>
            rw [h4] at h
            simp only at h
            have ex : x = .int .u64 (.ofNat p) := by rw [xInt_ok h1, kidx_inj h3]
            have ey : y = .int .i64 (.ofNat q) := by rw [xInt_ok h2, kidx_inj h4]
            subst ex ey
            induction l with
            | nil => cases h
            | cons e l ih =>
              have h : (Bool.rec (motive := fun _ => Option (Value × AS)) (List.rec (motive := fun _ => Option (Value × AS)) none (fun e _ ih => Bool.rec (motive := fun _ => Option (Value × AS)) ih (Bool.rec (motive := fun _ => Option (Value × AS)) ih (some (.int .u32 (.ofNat e.2.2), s)) (Nat.beq q e.2.1)) (Nat.beq p e.1)) l) (Bool.rec (motive := fun _ => Option (Value × AS)) (List.rec (motive := fun _ => Option (Value × AS)) none (fun e _ ih => Bool.rec (motive := fun _ => Option (Value × AS)) ih (Bool.rec (motive := fun _ => Option (Value × AS)) ih (some (.int .u32 (.ofNat e.2.2), s)) (Nat.beq q e.2.1)) (Nat.beq p e.1)) l) (some (.int .u32 (.ofNat e.2.2), s)) (Nat.beq q e.2.1)) (Nat.beq p e.1) : Option (Value × AS)) = some (v, s') := h
              cases h5 : Nat.beq p e.1 with
              | false =>
                simp only [h5] at h
                exact ih (fun e he => hl e (List.mem_cons_of_mem _ he)) h
              | true =>
                simp only [h5] at h
                cases h6 : Nat.beq q e.2.1 with
                | false =>
                  simp only [h6] at h
                  exact ih (fun e he => hl e (List.mem_cons_of_mem _ he)) h
                | true =>
                  simp only [h6] at h
                  cases h
                  rw [Nat.eq_of_beq_eq_true h5, Nat.eq_of_beq_eq_true h6]
                  exact rootB_ok hE hG (hl e (List.mem_cons_self ..)) s
  · cases h
end
end Go.Proofs.YtdcioacjhpnihaaGreatDoor
namespace Go.Proofs.YtdcioacjhpnihaaGreatDoor
open Go Go.RowKit
theorem ints_set (k : IntKind) : ∀ (a : List Nat) (i x : Nat), ints k (a.set i x) = (ints k a).set i (.int k (.ofNat x))
  | [], _, _ => rfl
  | _ :: _, 0, _ => rfl
  | y :: a, i + 1, x => congrArg (Value.int k (.ofNat y) :: ·) (ints_set k a i x)
theorem rowT_nil (x : Nat) (bs : List Nat) (c : Nat) : rowT x [] bs c = [] := rfl
theorem rowT_cons (x o b c : Nat) (os bs : List Nat) : rowT x (o :: os) (b :: bs) c = tStep o x b c % 65536 :: rowT x os bs (tStep o x b c / 65536) := rfl
theorem timesT_cons (b l : List Nat) (a o : Nat) (os os' : List Nat) (h : rowT a os b 0 = o :: os') : timesT b (a :: l) os = o :: timesT b l os' := by
  show List.rec (motive := fun _ => List Nat) [] (fun o os _ => o :: timesT b l os) (rowT a os b 0) = _
  rw [h]
theorem tStep_lt (o x y c : Nat) : tStep o x y c < 18446744073709551616 := Nat.mod_lt _ (by decide)
theorem Whole.frozen {w : World} {b : Nat} {t : TypeId} {cs : List Value} (h : Whole w b t cs) (i : Nat) : w.frozen? ⟨b, i, none⟩ = false := by
  unfold Whole at h
  simp [World.frozen?, h]
theorem Whole.set_ {w : World} {b : Nat} {t : TypeId} {cs : List Value} (h : Whole w b t cs) (i : Nat) (v : Value) : Whole (w.setCell ⟨b, i, none⟩ v) b t (cs.set i v) := by
  unfold Whole at h ⊢
  simp only [World.setCell, Array.getElem?_modify, if_true, h, Option.map_some]
  simp
/-- out, as it is being reckoned -/
structure TSt (W : World) (wr : World) (a b l : List Nat) : Prop where
  below : Below W.heap.size W wr
  A : Whole wr W.heap.size 264 (ints .u64 a)
  B : Whole wr (W.heap.size + 1) 264 (ints .u64 b)
  R : Whole wr (W.heap.size + 1 + 1) 264 [.int .u64 0, .int .u64 0, .int .u64 0, .int .u64 0, .int .u64 0, .int .u64 0, .int .u64 0, .int .u64 0, .int .u64 0]
  O : Whole wr (W.heap.size + 1 + 1 + 1) 264 (ints .u64 l)
theorem TSt.cellO {W wr : World} {a b l : List Nat} (h : TSt W wr a b l) {p o : Nat} (hp : l[p]? = some o) : wr.cell? ⟨W.heap.size + 1 + 1 + 1, p, none⟩ = some (.int .u64 (o : Int)) := by
  rw [h.O.cell, ints_get, hp]
  rfl
theorem whole_cell {wr : World} {k : Nat} {t : TypeId} {l : List Nat} (h : Whole wr k t (ints .u64 l)) {p o : Nat} (hp : l[p]? = some o) : wr.cell? ⟨k, p, none⟩ = some (.int .u64 (o : Int)) := by
  rw [h.cell, ints_get, hp]
  rfl
theorem TSt.set_ {W wr : World} {a b l : List Nat} (h : TSt W wr a b l) (p o : Nat) : TSt W (wr.setCell ⟨W.heap.size + 1 + 1 + 1, p, none⟩ (.int .u64 (o : Int))) a b (l.set p o) := by
  have hk : ∀ k, k ≠ W.heap.size + 1 + 1 + 1 → (wr.setCell ⟨W.heap.size + 1 + 1 + 1, p, none⟩ (.int .u64 (o : Int))).heap[k]? = wr.heap[k]? := fun k hk => Below.heap_setCell _ _ _ _ hk
  refine ⟨h.below.setCell (show W.heap.size ≤ W.heap.size + 1 + 1 + 1 by omega) _, (hk _ (by omega)).trans h.A, (hk _ (by omega)).trans h.B, (hk _ (by omega)).trans h.R, ?_⟩
  · have h := h.O
    unfold Whole at h ⊢
    rw [ints_set]
    simp only [World.setCell, Array.getElem?_modify, if_true, h, Option.map_some]
    simp
theorem wrapU (n : Nat) : IntKind.u64.wrap (n : Int) = ((n % 18446744073709551616 : Nat) : Int) := by
  rw [IntKind.wrap_u64]
  omega
theorem wrapMul (x y : Nat) : IntKind.u64.wrap ((x : Int) * (y : Int)) = ((x * y % 18446744073709551616 : Nat) : Int) := by
  rw [← Int.natCast_mul, wrapU]
theorem wrapAdd (x y : Nat) : IntKind.u64.wrap ((x : Int) + (y : Int)) = (((x + y) % 18446744073709551616 : Nat) : Int) := by
  rw [← Int.natCast_add, wrapU]
set_option maxHeartbeats 2000000 in
set_option maxRecDepth 20000 in
theorem times_any (a b : List Nat) (ha : a.length = 9) (hb : b.length = 9) (W : World) : Calls Tryz.prog 129 #[.agg ⟨ints .u64 a⟩, .agg ⟨ints .u64 b⟩] W fun e w' => e = .returned (.agg ⟨ints .u64 (timesL a b)⟩) ∧ Below W.heap.size W w' := by
  have HA := hide ha
  have HB := hide hb
  have HS0 := hide (show TSt W ((((W.alloc (.cells ⟨ints .u64 a⟩ 264)).alloc (.cells ⟨ints .u64 b⟩ 264)).alloc (.cells #[.int .u64 0, .int .u64 0, .int .u64 0, .int .u64 0, .int .u64 0, .int .u64 0, .int .u64 0, .int .u64 0, .int .u64 0] 264)).alloc (.cells #[.int .u64 0, .int .u64 0, .int .u64 0, .int .u64 0, .int .u64 0, .int .u64 0, .int .u64 0, .int .u64 0, .int .u64 0] 264)) a b [0, 0, 0, 0, 0, 0, 0, 0, 0] from
    ⟨((((Below.refl _ _).alloc (Nat.le_refl _) _).alloc (by simp) _).alloc (by first | (simp; done) | (simp; omega)) _).alloc (by first | (simp; done) | (simp; omega)) _,
      by unfold Whole; rw [Below.heap_alloc _ _ _ (by first | (simp; done) | (simp; omega)), Below.heap_alloc _ _ _ (by first | (simp; done) | (simp; omega)), Below.heap_alloc _ _ _ (by simp)]; exact heap_alloc_new W _,
      by
        have h := Whole.new (W.alloc (.cells ⟨ints .u64 a⟩ 264)) (ints .u64 b) 264
        rw [World.size_alloc] at h
        unfold Whole at h ⊢
        rw [Below.heap_alloc _ _ _ (by first | (simp; done) | (simp; omega)), Below.heap_alloc _ _ _ (by simp)]
        exact h,
      by
        have h := Whole.new ((W.alloc (.cells ⟨ints .u64 a⟩ 264)).alloc (.cells ⟨ints .u64 b⟩ 264)) [.int .u64 0, .int .u64 0, .int .u64 0, .int .u64 0, .int .u64 0, .int .u64 0, .int .u64 0, .int .u64 0, .int .u64 0] 264
        rw [World.size_alloc, World.size_alloc] at h
        unfold Whole at h ⊢
        rw [Below.heap_alloc _ _ _ (by simp)]
        exact h, by
      have h := Whole.new (((W.alloc (.cells ⟨ints .u64 a⟩ 264)).alloc (.cells ⟨ints .u64 b⟩ 264)).alloc (.cells #[.int .u64 0, .int .u64 0, .int .u64 0, .int .u64 0, .int .u64 0, .int .u64 0, .int .u64 0, .int .u64 0, .int .u64 0] 264)) [.int .u64 0, .int .u64 0, .int .u64 0, .int .u64 0, .int .u64 0, .int .u64 0, .int .u64 0, .int .u64 0, .int .u64 0] 264
      rw [World.size_alloc, World.size_alloc, World.size_alloc] at h
      exact h⟩)
  clear ha hb
  go_enter Tryz.func129, Tryz.ntmps129
  go_wp2_with fail
  generalize ((((W.alloc (.cells ⟨ints .u64 a⟩ 264)).alloc (.cells ⟨ints .u64 b⟩ 264)).alloc (.cells #[.int .u64 0, .int .u64 0, .int .u64 0, .int .u64 0, .int .u64 0, .int .u64 0, .int .u64 0, .int .u64 0, .int .u64 0] 264)).alloc (.cells #[.int .u64 0, .int .u64 0, .int .u64 0, .int .u64 0, .int .u64 0, .int .u64 0, .int .u64 0, .int .u64 0, .int .u64 0] 264)) = w0 at *
  go_loopw [6] (fun x wr => ∃ (i : Nat) (pre os : List Nat), i ≤ 9 ∧ x = .int .i64 i ∧ pre.length = i ∧ os.length = 9 - i ∧ pre ++ timesT b (a.drop i) os = timesL a b ∧ TSt W wr a b (pre ++ os)) (fun x _ => 9 - (Go.RowKit.intOf x).toNat)
  case atStart => exact ⟨0, [], [0, 0, 0, 0, 0, 0, 0, 0, 0], by decide, rfl, rfl, rfl, rfl, HS0.out⟩
  case round =>
    obtain ⟨i, pre, os, hi, rfl, hp, hos, heq, hst⟩ := hrel
    have HSt := hide hst
    have HEq := hide heq
    have HP := hide hp
    have HOs := hide hos
    clear hst heq hp hos
    by_cases hlt : i < 9
    · obtain ⟨x, hx⟩ : ∃ x, a[i]? = some x := ⟨_, List.getElem?_eq_getElem (by rw [HA.out]; exact hlt)⟩
      have HX := hide hx
      clear hx
      go_wp2_with fail
      go_loopw [7, 8] (fun u v wr => ∃ (k c : Nat) (dn os' : List Nat), i + k ≤ 9 ∧ u = .int .u64 c ∧ v = .int .i64 k ∧ dn.length = k ∧ os'.length = 9 - i - k ∧ dn ++ rowT x os' (b.drop k) c = rowT x os b 0 ∧ TSt W wr a b (pre ++ (dn ++ os'))) (fun _ v _ => 9 - i - (Go.RowKit.intOf v).toNat)
      case atStart => exact ⟨0, 0, [], os, by omega, rfl, rfl, rfl, HOs.out, rfl, HSt.out⟩
      case round =>
        obtain ⟨k, c, dn, os', hik, rfl, rfl, hdn, hos', heq', hst'⟩ := hrel
        have HS2 := hide hst'
        have HE2 := hide heq'
        have HD := hide hdn
        have HO2 := hide hos'
        clear hst' heq' hdn hos'
        obtain ⟨p, hp⟩ : ∃ p : Nat, p = i + k := ⟨_, rfl⟩
        have w1 : IntKind.i64.wrap ((i : Int) + (k : Int)) = (p : Int) := by rw [IntWalk.i64_in _ (by omega)]; omega
        have w2 : (i : Int) + (k : Int) = (p : Int) := by omega
        have HPk := hide hp
        by_cases hlt2 : p < 9
        · have hlo : ∃ o os2, os' = o :: os2 := List.exists_cons_of_length_pos (by have := HO2.out; omega)
          obtain ⟨o, os2, rfl⟩ := hlo
          obtain ⟨y, hy⟩ : ∃ y, b[k]? = some y := ⟨_, List.getElem?_eq_getElem (by rw [HB.out]; omega)⟩
          have hdk : b.drop k = y :: b.drop (k + 1) := by
            obtain ⟨h1, h2⟩ := List.getElem?_eq_some_iff.1 hy
            rw [← h2]
            exact List.drop_eq_getElem_cons h1
          have f0 := HS2.out.cellO (p := p) (o := o) (by rw [← List.append_assoc, List.getElem?_append_right (by rw [List.length_append, HP.out, HD.out]; omega), List.length_append, HP.out, HD.out, show p - (i + k) = 0 by omega]; rfl)
          have g0 := fun i => HS2.out.O.frozen i
          have f1 := whole_cell HS2.out.A HX.out
          have f2 := whole_cell HS2.out.B hy
          have HDk := hide hdk
          obtain ⟨n, hn⟩ : ∃ n, n = tStep o x y c := ⟨_, rfl⟩
          have hlt3 := tStep_lt o x y c
          rw [← hn] at hlt3
          have u1 := wrapMul x y
          have u2 := wrapAdd o (x * y % 18446744073709551616)
          have u3 := wrapAdd ((o + x * y % 18446744073709551616) % 18446744073709551616) c
          rw [show ((o + x * y % 18446744073709551616) % 18446744073709551616 + c) % 18446744073709551616 = n by rw [hn]; rfl] at u3
          generalize (o + x * y % 18446744073709551616) % 18446744073709551616 = r2 at u2 u3
          generalize x * y % 18446744073709551616 = r1 at u1 u2
          have q0 : (n : Int).tdiv 65536 = ((n / 65536 : Nat) : Int) := by rw [Int.tdiv_eq_ediv_of_nonneg (by omega)]; omega
          have q1 : (n : Int).tmod 65536 = ((n % 65536 : Nat) : Int) := by rw [Int.tmod_eq_emod_of_nonneg (by omega)]; omega
          have wn0 : IntKind.u64.wrap ((n / 65536 : Nat) : Int) = ((n / 65536 : Nat) : Int) := by rw [IntKind.wrap_u64]; omega
          have wn1 : IntKind.u64.wrap ((n % 65536 : Nat) : Int) = ((n % 65536 : Nat) : Int) := by rw [IntKind.wrap_u64]; omega
          have HN := hide hn
          generalize hd0 : n / 65536 = nQ at *
          generalize hd1 : n % 65536 = nR at *
          have HN0 := hide hd0
          have HN1 := hide hd1
          clear hdk hp hy hn hlt3 hd0 hd1
          go_wp2_with fail
          go_quiet (fail)
          have HSq := hide (show TSt W (wr.drewN nq) a b (pre ++ (dn ++ o :: os2)) from ⟨⟨HS2.out.below.os, HS2.out.below.tape, HS2.out.below.output, HS2.out.below.size, HS2.out.below.block⟩, HS2.out.A, HS2.out.B, HS2.out.R, HS2.out.O⟩)
          go_wp2_with fail
          go_roundw
          case rel =>
            refine ⟨k + 1, nQ, dn ++ [nR], os2, by have := HPk.out; omega, rfl, by go_num, by rw [List.length_append, HD.out]; rfl, by have := HO2.out; rw [List.length_cons] at this; omega, ?_, ?_⟩
            · rw [← HE2.out, HDk.out, rowT_cons, ← HN.out, HN0.out, HN1.out, List.append_assoc]
              rfl
            · have h := HSq.out.set_ p nR
              rw [← List.append_assoc, List.set_append_right _ _ (by rw [List.length_append, HP.out, HD.out]; have := HPk.out; omega), List.length_append, HP.out, HD.out, show p - (i + k) = 0 by have := HPk.out; omega, List.set_cons_zero, List.append_assoc] at h
              rw [List.append_assoc]
              exact h
          case measure => (try simp [Go.RowKit.intOf]); have := HPk.out; omega
        · obtain rfl : os' = [] := List.eq_nil_of_length_eq_zero (by have := HO2.out; omega)
          have he := HE2.out
          rw [rowT_nil, List.append_nil] at he
          obtain ⟨o, os2, ho⟩ := List.exists_cons_of_length_pos (l := dn) (by have := HD.out; omega)
          subst ho
          have hs := HS2.out
          rw [List.append_nil] at hs
          have HE3 := hide he
          have HS3 := hide hs
          have hlo := HD.out
          have HLo := hide hlo
          clear he hs hlo hp
          go_wp2_with fail
          go_roundw
          case rel =>
            refine ⟨i + 1, pre ++ [o], os2, by omega, by go_num, by rw [List.length_append, HP.out]; rfl, by have := HLo.out; have := HPk.out; rw [List.length_cons] at *; omega, ?_, ?_⟩
            · have hda : a.drop i = x :: a.drop (i + 1) := by
                obtain ⟨h1, h2⟩ := List.getElem?_eq_some_iff.1 HX.out
                rw [← h2]
                exact List.drop_eq_getElem_cons h1
              rw [← HEq.out, hda, timesT_cons b (a.drop (i + 1)) x o os os2 HE3.out.symm, List.append_assoc]
              rfl
            · have h := HS3.out
              rw [List.append_assoc]
              exact h
          case measure => (try simp [Go.RowKit.intOf]); omega
    · obtain rfl : os = [] := List.eq_nil_of_length_eq_zero (by have := HOs.out; omega)
      have hs := HSt.out
      rw [List.append_nil] at hs
      have he := HEq.out
      rw [List.drop_eq_nil_of_le (by rw [HA.out]; omega)] at he
      have he2 : pre = timesL a b := by rw [← he]; exact (List.append_nil pre).symm
      have he2' := he2
      rw [he2] at hs
      have HS9 := hide hs
      clear hs he he2
      have hlen : (timesL a b).length = 9 := by rw [← he2', HP.out]; have := HOs.out; rw [List.length_nil] at this; omega
      have hS := HS9.out
      have HL := hide he2'
      clear he2'
      generalize hl : timesL a b = l at hlen hS
      have HLq := hide hl
      clear hl
      obtain ⟨t0, t1, t2, t3, t4, t5, t6, t7, t8, rfl⟩ : ∃ t0 t1 t2 t3 t4 t5 t6 t7 t8, l = [t0, t1, t2, t3, t4, t5, t6, t7, t8] := by
        match l, hlen with
        | [t0, t1, t2, t3, t4, t5, t6, t7, t8], _ => exact ⟨t0, t1, t2, t3, t4, t5, t6, t7, t8, rfl⟩
      have HR0 := hide hS.R
      have c0 := hS.cellO (p := 0) (o := t0) rfl
      have c1 := hS.cellO (p := 1) (o := t1) rfl
      have c2 := hS.cellO (p := 2) (o := t2) rfl
      have c3 := hS.cellO (p := 3) (o := t3) rfl
      have c4 := hS.cellO (p := 4) (o := t4) rfl
      have c5 := hS.cellO (p := 5) (o := t5) rfl
      have c6 := hS.cellO (p := 6) (o := t6) rfl
      have c7 := hS.cellO (p := 7) (o := t7) rfl
      have c8 := hS.cellO (p := 8) (o := t8) rfl
      have d0 := hS.R.cell 0
      have d1 := hS.R.cell 1
      have d2 := hS.R.cell 2
      have d3 := hS.R.cell 3
      have d4 := hS.R.cell 4
      have d5 := hS.R.cell 5
      have d6 := hS.R.cell 6
      have d7 := hS.R.cell 7
      have d8 := hS.R.cell 8
      have g0 := fun i => hS.R.frozen i
      have HBl := hide hS.below
      clear hS hlen
      simp only [List.getElem?_cons_zero, List.getElem?_cons_succ] at d0 d1 d2 d3 d4 d5 d6 d7 d8
      go_wp2_with fail
      have hfin := ((((((((HR0.out.set_ 0 (.int .u64 (t0 : Int))).set_ 1 (.int .u64 (t1 : Int))).set_ 2 (.int .u64 (t2 : Int))).set_ 3 (.int .u64 (t3 : Int))).set_ 4 (.int .u64 (t4 : Int))).set_ 5 (.int .u64 (t5 : Int))).set_ 6 (.int .u64 (t6 : Int))).set_ 7 (.int .u64 (t7 : Int))).set_ 8 (.int .u64 (t8 : Int))
      have hbf : ∀ {w : World} (i : Nat) (v : Value), Below W.heap.size W w → Below W.heap.size W (w.setCell ⟨W.heap.size + 1 + 1, i, none⟩ v) := fun i v h => h.setCell (show W.heap.size ≤ W.heap.size + 1 + 1 by omega) v
      rw [HLq.out]
      exact bodyPost_ret (results_cell_row Tryz.results129 _ _ (W.heap.size + 1 + 1) 264 #[.int .u64 (t0 : Int), .int .u64 (t1 : Int), .int .u64 (t2 : Int), .int .u64 (t3 : Int), .int .u64 (t4 : Int), .int .u64 (t5 : Int), .int .u64 (t6 : Int), .int .u64 (t7 : Int), .int .u64 (t8 : Int)] (0, 0) _ rfl hfin Tryz.underlying264 rfl (by kernel_rfl)) rfl
        ⟨rfl, hbf _ _ (hbf _ _ (hbf _ _ (hbf _ _ (hbf _ _ (hbf _ _ (hbf _ _ (hbf _ _ (hbf _ _ HBl.out))))))))⟩
theorem xTimes_call {args : List Value} {s s' : AS} {v : Value} (h : xTimes args s = some (v, s')) : CallOk E0 129 args s v s' := by
  unfold xTimes at h
  split at h
  · rename_i a b
    cases h1 : natUs (arrL a) with
    | none => rw [h1] at h; cases h
    | some l =>
      rw [h1] at h
      simp only at h
      cases h2 : natUs (arrL b) with
      | none => rw [h2] at h; cases h
      | some r =>
        rw [h2] at h
        simp only at h
        cases h3 : Nat.beq (llen r) 9 with
        | false => rw [h3] at h; cases h
        | true =>
          rw [h3] at h
          simp only at h
          cases h4 : Nat.beq (llen l) 9 with
          | false => rw [h4] at h; cases h
          | true =>
            rw [h4] at h
            cases h
            have e1 := natUs_ok h1
            have e2 := natUs_ok h2
            rw [arrL_eq] at e1 e2
            have e3 := Nat.eq_of_beq_eq_true h3
            have e4 := Nat.eq_of_beq_eq_true h4
            rw [llen_eq] at e3 e4
            have ea : a = ⟨ints .u64 l⟩ := by rw [← e1]
            have eb : b = ⟨ints .u64 r⟩ := by rw [← e2]
            subst ea eb
            have hf : ∀ ns : List Nat, flat (.agg ⟨ints .u64 ns⟩) = true := fun ns => Array.all_eq_true'.2 fun v hv => ints_flat ns v (by simpa using hv)
            refine ⟨enters0 (fn := Tryz.f129) (by kernel_rfl), fun ι w args' hr hx => ?_⟩
            obtain ⟨x, y, rfl⟩ : ∃ x y, args' = [x, y] := by
              match args', hx.1 with
              | [x, y], _ => exact ⟨x, y, rfl⟩
            rw [VR.flatE (hf _) (hx.2 0 _ _ rfl rfl), VR.flatE (hf _) (hx.2 1 _ _ rfl rfl)]
            refine (times_any l r e4 e3 w).mono ?_
            rintro e w' ⟨rfl, hb⟩
            exact ⟨ι, _, rfl, Tr.below hr hb, VR.flat ι (hf _)⟩
  · cases h
noncomputable section
def orcT : ORC := fun f args s => Bool.rec (motive := fun _ => Option (Value × AS)) none (xTimes args s) (Nat.beq f 129)
def E0t : Env := E0k.more orcT
theorem E0t_ok : E0t.Ok := E0k_ok.more fun f args s v s' h => by
  unfold orcT at h
  rcases brec h with ⟨h1, h⟩ | h
  · obtain rfl := Nat.eq_of_beq_eq_true h1
    exact xTimes_call h
  · cases h
end
end Go.Proofs.YtdcioacjhpnihaaGreatDoor
