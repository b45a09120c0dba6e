/- A memo: what a call that only reads gave. A memo: what a call that only reads gave. Calls without addresses: run once in an empty memory, they say what they give in any. Tables of such calls. -/
import Derived.Test.YtjfdpdnmkoaolaaGreatDoorQ12
import Derived.Test.YtjfdpdnmkoaolaaGreatDoorQ8
set_option linter.all false
namespace Go.Proofs.YtjfdpdnmkoaolaaGreatDoor
open Go
noncomputable section
def me16 : ME := ⟨344, [gHalves], ⟨429, .u8, n6⟩, 0, false, 512, 512, [], (Tu [(Ag [(U 2), ff, (St t9)]), (I 0)])⟩
theorem me16_ok : me16.good E0 1000000 = true := by kernel_rfl
end
end Go.Proofs.YtjfdpdnmkoaolaaGreatDoor
namespace Go.Proofs.YtjfdpdnmkoaolaaGreatDoor
open Go
noncomputable section
def me17 : ME := ⟨344, [gHalves], ⟨429, .u8, n7⟩, 0, false, 512, 512, [], (Tu [(Ag [(U 3), tt, (St t10)]), (I 0)])⟩
theorem me17_ok : me17.good E0 1000000 = true := by kernel_rfl
end
end Go.Proofs.YtjfdpdnmkoaolaaGreatDoor
namespace Go.Proofs.YtjfdpdnmkoaolaaGreatDoor
open Go
noncomputable section

/-- **a call without addresses, run once in an empty memory, gives that anywhere** -/
theorem pure_ok {E : Env} (hE : E.Ok) (hG : E.C.G ≤ 100) {N : Nat} {f : FuncId} {args : List Value} {v : Value} {s0 : AS} (hrun : wCall E (wCode E N) f args ⟨.leaf, 100⟩ = some (v, s0)) (ha : args.all flat = true) (hv : flat2 v = true) (s : AS) : CallOk E f args s v s := by
  obtain ⟨c1, c2⟩ := fCall_ok hE (fCode_ok hE N) _ _ _ _ _ (wCall_ok (wCode_ok hE.C N) _ _ _ _ hrun)
  refine ⟨c1, fun ι w args' hr hx => ?_⟩
  let ρ : Nat → Option Nat := fun j => if j < 100 then some j else none
  have hz : ∀ j o, (⟨.leaf, 100⟩ : AS).mem.get j = some o → False := fun j o h => by
    have h : (T.leaf : T Obj).get j = some o := h
    rw [T.get_leaf] at h
    cases h
  have hrep : Rep E.P E.C.G (renE ρ ι) (⟨.leaf, 100⟩ : AS).mem w := memo_rep hr (fun g hg => if_pos (by omega)) (fun j hj => if_neg (by
    have hj : 100 ≤ j := hj
    omega)) (fun j o h => (hz j o h).elim) (fun i j q h => by
    obtain ⟨o, ho⟩ := Option.ne_none_iff_exists'.1 h
    exact (hz i o ho).elim)
  have hargs : VRl (renE ρ ι) args args' := ⟨hx.1, fun i u u' e1 e2 => by
    have hf := List.all_eq_true.1 ha u (List.mem_of_getElem? e1)
    rw [VR.flatE hf (hx.2 i u u' e1 e2)]
    exact VR.flat _ hf⟩
  refine (c2 _ _ _ hrep hargs).mono ?_
  rintro e w' ⟨ι', v', rfl, ht, hv'⟩
  refine ⟨ι, v', rfl, memo_back hr (fun j o h => (hz j o h).elim) ht fun j o h => (hz j o h).elim, ?_⟩
  rw [VR.flat2E hv hv']
  exact VR.flat2 ι hv
/-! ### numbers of nine groups of 16 bits -/
def tStep (o x y c : Nat) : Nat := Nat.mod (Nat.add (Nat.mod (Nat.add o (Nat.mod (Nat.mul x y) 18446744073709551616)) 18446744073709551616) c) 18446744073709551616
def rowT (x : Nat) : List Nat → List Nat → Nat → List Nat := List.rec (motive := fun _ => List Nat → Nat → List Nat) (fun _ _ => []) fun o os ih bs c => List.rec (motive := fun _ => List Nat) (o :: os) (fun b bs _ => Nat.mod (tStep o x b c) 65536 :: ih bs (Nat.div (tStep o x b c) 65536)) bs
def timesT (bs : List Nat) : List Nat → List Nat → List Nat := List.rec (motive := fun _ => List Nat → List Nat) (fun os => os) fun a _ ih os => List.rec (motive := fun _ => List Nat) [] (fun o os _ => o :: ih os) (rowT a os bs 0)
def timesL (a b : List Nat) : List Nat := timesT b a [0, 0, 0, 0, 0, 0, 0, 0, 0]
/-- a row of numbers of 64 bits -/
def natUs : List Value → Option (List Nat) := List.rec (motive := fun _ => Option (List Nat)) (some []) fun v _ ih => IV.rec (motive := fun _ => Option (List Nat)) none (fun k m => Bool.rec (motive := fun _ => Option (List Nat)) none (Option.rec (motive := fun _ => Option (List Nat)) none (fun l => some (m :: l)) ih) (Nat.beq (kidx k) (kidx .u64))) (xInt v)
theorem natUs_ok : ∀ {l : List Value} {ns : List Nat}, natUs l = some ns → l = ints .u64 ns
  | [], ns, h => by
    have h : (some [] : Option (List Nat)) = some ns := h
    cases h
    rfl
  | v :: l, ns, h => by
    have h : (IV.rec (motive := fun _ => Option (List Nat)) none (fun k m => Bool.rec (motive := fun _ => Option (List Nat)) none (Option.rec (motive := fun _ => Option (List Nat)) none (fun l => some (m :: l)) (natUs l)) (Nat.beq (kidx k) (kidx .u64))) (xInt v) : Option (List Nat)) = some ns := h
    cases h1 : xInt v with
    | no => rw [h1] at h; cases h
    | nat k m =>
      rw [h1] at h
      cases h2 : Nat.beq (kidx k) (kidx .u64) with
      | false => simp only [h2] at h; cases h
      | true =>
        simp only [h2] at h
        cases h3 : natUs l with
        | none => simp only [h3] at h; cases h
        | some l' =>
          simp only [h3] at h
          cases h
          rw [xInt_ok h1, kidx_inj h2, natUs_ok h3]
          rfl
def xTimes (args : List Value) (s : AS) : Option (Value × AS) := match args with
  | [.agg a, .agg b] => Option.rec (motive := fun _ => Option (Value × AS)) none (fun l => Option.rec (motive := fun _ => Option (Value × AS)) none (fun r => Bool.rec (motive := fun _ => Option (Value × AS)) none (Bool.rec (motive := fun _ => Option (Value × AS)) none (some (.agg ⟨ints .u64 (timesL l r)⟩, s)) (Nat.beq (llen l) 9)) (Nat.beq (llen r) 9)) (natUs (arrL b))) (natUs (arrL a))
  | _ => none
theorem xTimes_ok {E : Env} (hE : E.Ok) (hG : E.C.G ≤ 100) {N : Nat} {f : FuncId} (H : ∀ a b : List Nat, a.length = 9 → b.length = 9 → ∃ s0, wCall E (wCode E N) f [.agg ⟨ints .u64 a⟩, .agg ⟨ints .u64 b⟩] ⟨.leaf, 100⟩ = some (.agg ⟨ints .u64 (timesL a b)⟩, s0))
    {args : List Value} {s s' : AS} {v : Value} (h : xTimes args s = some (v, s')) : CallOk E f args s v s' := by
  unfold xTimes at h
  split at h
  · rename_i a b
    cases h1 : natUs (arrL a) with
    | none => rw [h1] at h; cases h
    | some l =>
      rw [h1] at h
      simp only at h
      cases h2 : natUs (arrL b) with
      | none => rw [h2] at h; cases h
      | some r =>
        rw [h2] at h
        simp only at h
        cases h3 : Nat.beq (llen r) 9 with
        | false => rw [h3] at h; cases h
        | true =>
          rw [h3] at h
          simp only at h
          cases h4 : Nat.beq (llen l) 9 with
          | false => rw [h4] at h; cases h
          | true =>
            rw [h4] at h
            cases h
            have e1 := natUs_ok h1
            have e2 := natUs_ok h2
            rw [arrL_eq] at e1 e2
            have e3 := Nat.eq_of_beq_eq_true h3
            have e4 := Nat.eq_of_beq_eq_true h4
            rw [llen_eq] at e3 e4
            obtain ⟨s0, hrun⟩ := H l r e4 e3
            have ea : a = ⟨ints .u64 l⟩ := by rw [← e1]
            have eb : b = ⟨ints .u64 r⟩ := by rw [← e2]
            subst ea eb
            have hf : ∀ ns : List Nat, flat (.agg ⟨ints .u64 ns⟩) = true := fun ns => Array.all_eq_true'.2 fun v hv => ints_flat ns v (by simpa using hv)
            refine pure_ok hE hG hrun ?_ (hf _) s
            simp only [List.all_cons, List.all_nil, hf, Bool.and_self]
  · cases h
/-- calls of two numbers that give a number -/
def xRoot (l : List (Nat × Nat × Nat)) (args : List Value) (s : AS) : Option (Value × AS) := match args with
  | [x, y] => IV.rec (motive := fun _ => Option (Value × AS)) none (fun j p => IV.rec (motive := fun _ => Option (Value × AS)) none (fun k q => Bool.rec (motive := fun _ => Option (Value × AS)) none (Bool.rec (motive := fun _ => Option (Value × AS)) none
    (List.rec (motive := fun _ => Option (Value × AS)) none (fun e _ ih => Bool.rec (motive := fun _ => Option (Value × AS)) ih (Bool.rec (motive := fun _ => Option (Value × AS)) ih (some (.int .u32 (.ofNat e.2.2), s)) (Nat.beq q e.2.1)) (Nat.beq p e.1)) l) (Nat.beq (kidx k) (kidx .i64))) (Nat.beq (kidx j) (kidx .u64))) (xInt y)) (xInt x)
  | _ => none
def rootB (E : Env) (f : FuncId) (e : Nat × Nat × Nat) : Bool := Option.rec (motive := fun _ => Bool) false (fun r => veqA r.1 (.int .u32 (.ofNat e.2.2))) (wCall E (wCode E 1000000) f [.int .u64 (.ofNat e.1), .int .i64 (.ofNat e.2.1)] ⟨.leaf, 100⟩)
theorem rootB_ok {E : Env} (hE : E.Ok) (hG : E.C.G ≤ 100) {f : FuncId} {e : Nat × Nat × Nat} (h : rootB E f e = true) (s : AS) : CallOk E f [.int .u64 (.ofNat e.1), .int .i64 (.ofNat e.2.1)] s (.int .u32 (.ofNat e.2.2)) s := by
  unfold rootB at h
  cases hrun : wCall E (wCode E 1000000) f [.int .u64 (.ofNat e.1), .int .i64 (.ofNat e.2.1)] ⟨.leaf, 100⟩ with
  | none => rw [hrun] at h; cases h
  | some r =>
    rw [hrun] at h
    obtain ⟨u, s0⟩ := r
    have hv := veq_ok 8 _ _ (veqA_ok h)
    subst hv
    exact pure_ok hE hG hrun rfl rfl s
theorem xRoot_ok {E : Env} (hE : E.Ok) (hG : E.C.G ≤ 100) {f : FuncId} {l : List (Nat × Nat × Nat)} (hl : ∀ e ∈ l, rootB E f e = true) {args : List Value} {s s' : AS} {v : Value} (h : xRoot l args s = some (v, s')) : CallOk E f args s v s' := by
  unfold xRoot at h
  split at h
  · rename_i x y
    cases h1 : xInt x with
    | no => rw [h1] at h; cases h
    | nat j p =>
      rw [h1] at h
      simp only at h
      cases h2 : xInt y with
      | no => rw [h2] at h; cases h
      | nat k q =>
        rw [h2] at h
        simp only at h
        cases h3 : Nat.beq (kidx j) (kidx .u64) with
        | false => rw [h3] at h; cases h
        | true =>
          rw [h3] at h
          simp only at h
          cases h4 : Nat.beq (kidx k) (kidx .i64) with
          | false => rw [h4] at h; cases h
          | true =>
            rw [h4] at h
            simp only at h
            have ex : x = .int .u64 (.ofNat p) := by rw [xInt_ok h1, kidx_inj h3]
            have ey : y = .int .i64 (.ofNat q) := by rw [xInt_ok h2, kidx_inj h4]
            subst ex ey
            induction l with
            | nil => cases h
            | cons e l ih =>
              have h : (Bool.rec (motive := fun _ => Option (Value × AS)) (List.rec (motive := fun _ => Option (Value × AS)) none (fun e _ ih => Bool.rec (motive := fun _ => Option (Value × AS)) ih (Bool.rec (motive := fun _ => Option (Value × AS)) ih (some (.int .u32 (.ofNat e.2.2), s)) (Nat.beq q e.2.1)) (Nat.beq p e.1)) l) (Bool.rec (motive := fun _ => Option (Value × AS)) (List.rec (motive := fun _ => Option (Value × AS)) none (fun e _ ih => Bool.rec (motive := fun _ => Option (Value × AS)) ih (Bool.rec (motive := fun _ => Option (Value × AS)) ih (some (.int .u32 (.ofNat e.2.2), s)) (Nat.beq q e.2.1)) (Nat.beq p e.1)) l) (some (.int .u32 (.ofNat e.2.2), s)) (Nat.beq q e.2.1)) (Nat.beq p e.1) : Option (Value × AS)) = some (v, s') := h
              cases h5 : Nat.beq p e.1 with
              | false =>
                simp only [h5] at h
                exact ih (fun e he => hl e (List.mem_cons_of_mem _ he)) h
              | true =>
                simp only [h5] at h
                cases h6 : Nat.beq q e.2.1 with
                | false =>
                  simp only [h6] at h
                  exact ih (fun e he => hl e (List.mem_cons_of_mem _ he)) h
                | true =>
                  simp only [h6] at h
                  cases h
                  rw [Nat.eq_of_beq_eq_true h5, Nat.eq_of_beq_eq_true h6]
                  exact rootB_ok hE hG (hl e (List.mem_cons_self ..)) s
  · cases h
end
end Go.Proofs.YtjfdpdnmkoaolaaGreatDoor
