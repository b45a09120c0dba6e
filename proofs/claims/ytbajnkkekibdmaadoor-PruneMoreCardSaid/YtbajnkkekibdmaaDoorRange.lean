/- A range over a function whose iterator keeps a state of its own in memory (a map): the law for the caller. -/
import Derived.RangeFuncNested
import Derived.RangeFuncBound
import Derived.RangeFuncCalls
import Derived.RangeFuncLeaves
import Derived.Below
namespace Go.Proofs.YtbajnkkekibdmaaDoor
open Go.RowKit

/-- every block but those of Ex lies as it lay -/
def KeptX (Ex : Nat → Prop) (W W' : World) : Prop := Below 0 W W' ∧ ∀ k, k < W.heap.size → ¬ Ex k → W'.heap[k]? = W.heap[k]?
theorem KeptX.refl (Ex : Nat → Prop) (W : World) : KeptX Ex W W := ⟨Below.refl _ _, fun _ _ _ => rfl⟩
theorem KeptX.size {Ex : Nat → Prop} {W W' : World} (h : KeptX Ex W W') : W.heap.size ≤ W'.heap.size := h.1.size
theorem KeptX.trans {Ex : Nat → Prop} {A B C : World} (h : KeptX Ex A B) (k : KeptX Ex B C) : KeptX Ex A C :=
  ⟨h.1.trans k.1, fun i hi hE => (k.2 i (Nat.lt_of_lt_of_le hi h.size) hE).trans (h.2 i hi hE)⟩
theorem KeptX.mono {Ex Ey : Nat → Prop} {W W' : World} (h : KeptX Ex W W') (hE : ∀ k, Ex k → Ey k) : KeptX Ey W W' := ⟨h.1, fun k hk hn => h.2 k hk (fun e => hn (hE k e))⟩
theorem KeptX.alloc (Ex : Nat → Prop) (W : World) (o : Obj) : KeptX Ex W (W.alloc o) := ⟨(Below.refl 0 W).alloc (Nat.zero_le _) o, fun k hk _ => Below.heap_alloc W o k hk⟩
theorem KeptX.put (Ex : Nat → Prop) (W : World) (l : Nat) (o : Obj) (h : Ex l) : KeptX Ex W (W.putObj l o) :=
  ⟨(Below.refl 0 W).grown (grownBy_putObj' W l o) (Nat.zero_le _) (fun _ _ => Nat.zero_le _), fun _ _ hn => World.putObj_heap_other (fun e => hn (e ▸ h))⟩
theorem KeptX.setCell (Ex : Nat → Prop) (W : World) (p : Addr) (v : Value) (h : Ex p.block) : KeptX Ex W (W.setCell p v) :=
  ⟨(Below.refl 0 W).setCell (Nat.zero_le _) v, fun k _ hn => Below.heap_setCell W p v k (fun e => hn (e ▸ h))⟩
theorem KeptX.drew {Ex : Nat → Prop} {A W : World} (h : KeptX Ex A W) : KeptX Ex A W.drew := ⟨h.1.drew, h.2⟩
theorem KeptX.cell {Ex : Nat → Prop} {W W' : World} (h : KeptX Ex W W') {b : Nat} (hb : b < W.heap.size) (hE : ¬ Ex b) (o : Nat) : W'.cell? ⟨b, o, none⟩ = W.cell? ⟨b, o, none⟩ := World.cell?_of_block (h.2 b hb hE)
theorem KeptX.below {Ex : Nat → Prop} {W W' : World} {B : Nat} (h : KeptX Ex W W') (hB : B ≤ W.heap.size) (hE : ∀ k, k < B → ¬ Ex k) : Below B W W' := ⟨h.1.os, h.1.tape, h.1.output, h.1.size, fun k hk => h.2 k (by omega) (hE k hk)⟩
theorem below_put {B l : Nat} (W : World) (o : Obj) (h : B ≤ l) (hB : B ≤ W.heap.size) : Below B W (W.putObj l o) := (Below.refl B W).grown (grownBy_putObj' W l o) hB (fun k e => by cases e; exact h)

/-- J abides whatever is done from block B on. -/
def AbidesAll {β : Type} (B : Nat) (J : β → World → Prop) : Prop := ∀ s W W', J s W → Below B W W' → J s W'

variable {P : Program} {n : Nat}

/-- how a round's body may be left -/
def roundEnd {α : Type} (Ex : Nat → Prop) (I : List α → World → Prop) (Ix : Code → List α → World → Prop) (xs : List α) (W : World) : Exit → Act → World → Prop
  | .normal, _, W' => KeptX Ex W W' ∧ I xs W'
  | .ret, _, W' => KeptX Ex W W' ∧ Ix .ret xs W'
  | .exit id, _, W' => KeptX Ex W W' ∧ Ix (.exit id) xs W'
  | .goto t, _, W' => KeptX Ex W W' ∧ Ix (.goto t) xs W'
  | .panic _, _, _ => False
  | .outgrown, _, _ => False

/-- **THE LAW.** -/
theorem range_law {α : Type} {g : Operand} {ps : Array Tmp} {assign body : Code} {Q : Exit → Act → World → Prop} {a : Act} {w : World} {gf : Nat} {lb : Array Value}
    (hg : a.eval g = .func (.func gf) #[] lb) (eg : ∀ args w, (callFunc gf args).run P w = .ok (.enter gf args) w) (encs : α → Array Value) (hps : ∀ x, (encs x).size = ps.size)
    (xs : List α) (Ex : Nat → Prop) (hEx : ∀ k, Ex k → k < w.heap.size)
    (hseq : ∀ (J Jx : List α → World → Prop) (W : World), Below w.heap.size w W → W.heap.size = w.heap.size + 2 → AbidesAll W.heap.size J → AbidesAll W.heap.size Jx →
      (∀ pre x W1, J pre W1 → (pre ++ [x]) <+: xs → YieldAt Fence.wide (n - 1 - 1) P (w.heap.size + 1) (encs x) W1 (fun e W' =>
        (e = .returned (.bool true) ∧ J (pre ++ [x]) W' ∧ KeptX (fun k => Ex k ∨ k = w.heap.size ∨ k = w.heap.size + 1) W1 W') ∨ (e = .returned (.bool false) ∧ Jx (pre ++ [x]) W'))) → J [] W →
      CallsIn Fence.wide (n - 1) P gf (#[.func (.yield (w.heap.size + 1)) #[] #[]] ++ lb) W fun e W' => (∃ v, e = .returned v) ∧ (J xs W' ∨ ∃ pre, pre <+: xs ∧ Jx pre W'))
    (I : List α → World → Prop) (Ix : Code → List α → World → Prop) (hI : AbidesAll w.heap.size I) (hIx : ∀ c, AbidesAll w.heap.size (Ix c)) (h0 : I [] w)
    (Ax : α → Act → World → Prop) (hAx : ∀ x a' W W', Ax x a' W → (∀ k, k ≠ w.heap.size + 1 → W'.heap[k]? = W.heap[k]?) → Ax x a' W')
    (hassign : ∀ (pre : List α) (x : α) (W : World) (K : Act → World → Prop), I pre W → w.heap.size + 2 ≤ W.heap.size → (∀ a' W', KeptX (fun _ => False) W W' → Ax x a' W' → K a' W') →
      assign.wpIn (Fence.wide.inRound (w.heap.size + 1)) (n - 1 - 1) P (Exit.then K (fun _ _ _ => False)) { tmps := (ps.zip (encs x)).foldl (fun t (p, v) => t.setIfInBounds p v) a.tmps, defers := [] } W)
    (hbody : ∀ (pre : List α) (x : α) (a' : Act) (W : World), w.heap.size + 2 ≤ W.heap.size → I pre W → Ax x a' W → (pre ++ [x]) <+: xs →
      body.wpIn (Fence.wide.inRound (w.heap.size + 1)) (n - 1 - 1) P (roundEnd Ex I Ix (pre ++ [x]) W) a' W)
    (hdone : ∀ W, w.heap.size + 2 ≤ W.heap.size → I xs W → W.heap[w.heap.size]? = some (.deferred (some [])) → Q .normal { a with defers := { target := .collected w.heap.size, args := #[] } :: a.defers } W)
    (hstop : ∀ (c : Code) (pre : List α) (W : World), w.heap.size + 2 ≤ W.heap.size → pre <+: xs → Ix c pre W → W.heap[w.heap.size]? = some (.deferred (some [])) →
      c.wpIn Fence.wide n P Q { a with defers := { target := .collected w.heap.size, args := #[] } :: a.defers } W) :
    (Code.rangeFunc g ps assign body).wpIn Fence.wide n P Q a w := by
  refine wpIn_rangeFunc ?_
  intro fn hfn
  obtain ⟨rec, hrec⟩ : ∃ rec : LoopState → Option Code → Loop, rec = fun st pe => { state := st, pending := pe, fn, tmps := a.tmps, params := ps, assign, body, defers := w.heap.size } := ⟨_, rfl⟩
  obtain ⟨W1, hW1⟩ : ∃ W1, (w.alloc (.deferred (some []))).alloc (.loop (rec .ready none)) = W1 := ⟨_, rfl⟩
  have hz1 : W1.heap.size = w.heap.size + 2 := by rw [← hW1]; simp
  have hL1 : W1.heap[w.heap.size + 1]? = some (.loop (rec .ready none)) := by
    have := World.alloc_heap_new (w.alloc (.deferred (some []))) (.loop (rec .ready none))
    rwa [World.size_alloc, hW1] at this
  have hK1 : W1.heap[w.heap.size]? = some (.deferred (some [])) := by
    rw [← hW1]; exact (Below.heap_alloc _ _ _ (by simp)).trans (World.alloc_heap_new w _)
  have hb1 : Below w.heap.size w W1 := by
    rw [← hW1]; exact ((Below.refl _ w).alloc (Nat.le_refl _) _).alloc (by simp) _
  refine ⟨w.heap.size + 1, [{ target := .collected w.heap.size, args := #[] }], W1, { target := .fn (.func gf) lb, args := #[.func (.yield (w.heap.size + 1)) #[] #[]] }, W1, gf,
    #[.func (.yield (w.heap.size + 1)) #[] #[]] ++ lb, W1, ?_, ?_, ?_, ?_, ?_, ?_⟩
  · rw [← hW1, hrec]; exact run_enterLoop_outer _ _ _ _ _
  · simp only [resolve, hg]
    simp [go_sem]
  · exact fun _ _ => trivial
  · simp [invoke, go_sem, eg]
  · intro h; cases h
  · refine (hseq (fun pre W => I pre W ∧ w.heap.size + 2 ≤ W.heap.size ∧ W.heap[w.heap.size + 1]? = some (.loop (rec .ready none)) ∧ W.heap[w.heap.size]? = some (.deferred (some [])))
      (fun pre W => ∃ c, Ix c pre W ∧ w.heap.size + 2 ≤ W.heap.size ∧ W.heap[w.heap.size + 1]? = some (.loop (rec .done (some c))) ∧ W.heap[w.heap.size]? = some (.deferred (some [])))
      W1 hb1 hz1 ?_ ?_ ?_ ⟨hI _ _ _ h0 hb1, by omega, hL1, hK1⟩).mono ?_
    · rintro s A B ⟨h1, h2, h3, h4⟩ hb
      exact ⟨hI _ _ _ h1 (hb.mono (by omega)), Nat.le_trans h2 hb.size, (hb.block _ (by omega)).trans h3, (hb.block _ (by omega)).trans h4⟩
    · rintro s A B ⟨c, h1, h2, h3, h4⟩ hb
      exact ⟨c, hIx c _ _ _ h1 (hb.mono (by omega)), Nat.le_trans h2 hb.size, (hb.block _ (by omega)).trans h3, (hb.block _ (by omega)).trans h4⟩
    · -- one round
      rintro pre x W ⟨hi, hz, hl, hk⟩ hpre
      have hy := run_yield (P := P) (args := encs x) hl (by rw [hrec]; exact hps x)
      rw [hrec] at hy
      refine ⟨fn, _, assign, body, hy, roundIn_of_wpIn hfn (hassign pre x W _ hi hz ?_)⟩
      clear hy
      intro a' Wa hka hax
      have hza : w.heap.size + 2 ≤ Wa.heap.size := Nat.le_trans hz hka.size
      have hla : Wa.heap[w.heap.size + 1]? = some (.loop (rec .ready none)) := (hka.2 _ (by omega) (by simp)).trans hl
      have hda : Wa.heap[w.heap.size]? = some (.deferred (some [])) := (hka.2 _ (by omega) (by simp)).trans hk
      have hia : I pre Wa := hI _ _ _ hi (hka.below (by omega) (fun _ _ h => h))
      obtain ⟨Wb, hWb⟩ : ∃ Wb, Wb = Wa.putObj (w.heap.size + 1) (.loop { rec .ready none with state := .busy }) := ⟨_, rfl⟩
      have hzb : Wb.heap.size = Wa.heap.size := by rw [hWb]; simp
      have hlb : Wb.heap[w.heap.size + 1]? = some (.loop { rec .ready none with state := .busy }) := by rw [hWb]; exact World.putObj_heap_same (by omega)
      have hdb : Wb.heap[w.heap.size]? = some (.deferred (some [])) := by rw [hWb]; exact (World.putObj_heap_other (by omega)).trans hda
      have hib : I pre Wb := by rw [hWb]; exact hI _ _ _ hia (below_put Wa _ (by omega) (by omega))
      have hkb : KeptX (fun k => Ex k ∨ k = w.heap.size ∨ k = w.heap.size + 1) W Wb := by
        rw [hWb]; exact (hka.mono (fun _ h => h.elim)).trans (KeptX.put _ _ _ _ (.inr (.inr rfl)))
      refine ⟨Wb, by rw [hWb]; exact run_beginRound hla (by rw [hrec]), ?_⟩
      refine wpIn_mono (hbody pre x a' Wb (by omega) hib (hAx x a' Wa Wb hax (fun k hk => by rw [hWb]; exact World.putObj_heap_other hk)) hpre) ?_
      have fin : ∀ (jump : Option Code) (W3 : World), KeptX Ex Wb W3 →
          (Instr.endRound (w.heap.size + 1) jump).run P W3 = .ok (.bool jump.isNone) (W3.putObj (w.heap.size + 1) (.loop (rec (if jump.isNone then .ready else .done) jump))) ∧
          w.heap.size + 2 ≤ (W3.putObj (w.heap.size + 1) (.loop (rec (if jump.isNone then .ready else .done) jump))).heap.size ∧
          (W3.putObj (w.heap.size + 1) (.loop (rec (if jump.isNone then .ready else .done) jump))).heap[w.heap.size + 1]? = some (.loop (rec (if jump.isNone then .ready else .done) jump)) ∧
          (W3.putObj (w.heap.size + 1) (.loop (rec (if jump.isNone then .ready else .done) jump))).heap[w.heap.size]? = some (.deferred (some [])) ∧
          Below w.heap.size W3 (W3.putObj (w.heap.size + 1) (.loop (rec (if jump.isNone then .ready else .done) jump))) ∧
          KeptX (fun k => Ex k ∨ k = w.heap.size ∨ k = w.heap.size + 1) W (W3.putObj (w.heap.size + 1) (.loop (rec (if jump.isNone then .ready else .done) jump))) := fun jump W3 hk3 => by
        have hz3 := hk3.size
        have hl3 : W3.heap[w.heap.size + 1]? = some (.loop { rec .ready none with state := .busy }) := (hk3.2 _ (by omega) (fun h => by have := hEx _ h; omega)).trans hlb
        have hd3 : W3.heap[w.heap.size]? = some (.deferred (some [])) := (hk3.2 _ (by omega) (fun h => by have := hEx _ h; omega)).trans hdb
        have := run_endRound (P := P) jump hl3
        rw [hrec] at this ⊢
        refine ⟨this, by simp; omega, World.putObj_heap_same (by omega), (World.putObj_heap_other (by omega)).trans hd3, below_put W3 _ (by omega) (by omega), ?_⟩
        exact (hkb.trans (hk3.mono fun _ h => .inl h)).trans (KeptX.put _ _ _ _ (.inr (.inr rfl)))
      rintro e a3 W3 hp
      cases e with
      | normal =>
        obtain ⟨hk3, hi3⟩ := hp
        obtain ⟨hr, h4, h5, h6, h7, h8⟩ := fin none W3 hk3
        exact ⟨_, _, hr, .inl ⟨rfl, ⟨hI _ _ _ hi3 h7, h4, h5, h6⟩, h8⟩⟩
      | ret =>
        obtain ⟨hk3, hi3⟩ := hp
        obtain ⟨hr, h4, h5, h6, h7, h8⟩ := fin (some .ret) W3 hk3
        exact ⟨_, _, hr, .inr ⟨rfl, .ret, hIx _ _ _ _ hi3 h7, h4, h5, h6⟩⟩
      | exit id =>
        obtain ⟨hk3, hi3⟩ := hp
        obtain ⟨hr, h4, h5, h6, h7, h8⟩ := fin (some (.exit id)) W3 hk3
        exact ⟨_, _, hr, .inr ⟨rfl, .exit id, hIx _ _ _ _ hi3 h7, h4, h5, h6⟩⟩
      | goto t =>
        obtain ⟨hk3, hi3⟩ := hp
        obtain ⟨hr, h4, h5, h6, h7, h8⟩ := fin (some (.goto t)) W3 hk3
        exact ⟨_, _, hr, .inr ⟨rfl, .goto t, hIx _ _ _ _ hi3 h7, h4, h5, h6⟩⟩
      | panic ch => exact hp.elim
      | outgrown => exact hp.elim
    · -- behind the iterator
      rintro e W2 ⟨⟨v, rfl⟩, (⟨hi, hz, hl, hk⟩ | ⟨pre, hpre, c, hi, hz, hl, hk⟩)⟩
      · have he := run_endLoop (P := P) hl (by rw [hrec]; simp)
        rw [hrec] at he
        exact ⟨none, _, he, hdone _ (by simp; omega) (hI _ _ _ hi (below_put W2 _ (by omega) (by omega))) ((World.putObj_heap_other (by omega)).trans hk)⟩
      · have he := run_endLoop (P := P) hl (by rw [hrec]; simp)
        rw [hrec] at he
        exact ⟨some c, _, he, hstop c pre _ (by simp; omega) hpre (hIx c _ _ _ hi (below_put W2 _ (by omega) (by omega))) ((World.putObj_heap_other (by omega)).trans hk)⟩
end Go.Proofs.YtbajnkkekibdmaaDoor
