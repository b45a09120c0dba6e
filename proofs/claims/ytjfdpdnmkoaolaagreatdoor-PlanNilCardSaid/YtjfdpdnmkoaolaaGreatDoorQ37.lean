/- Calls of nil, run once, whatever the steps; a store that begins, and a run of plan on it. Walk of PlanNil. -/
import Derived.Test.YtjfdpdnmkoaolaaGreatDoorQ36
import Derived.Test.YtjfdpdnmkoaolaaGreatDoorQ34
import Derived.Deep.DeepCutAuto
import Derived.Deep.QuietTactic
import Derived.BigQuiet
import Derived.WalkMore
import Derived.ProofKit
import Derived.Carry
import Derived.ChangeSame
import Derived.Deep.DeepHandedRow
import Derived.Deep.WholeRow
import Derived.Laws.OwnMore
import Derived.IntWalk
import Derived.OpenShut
import Derived.WalkKit
import Derived.Tactics
set_option linter.all false
namespace Go.Proofs.YtjfdpdnmkoaolaaGreatDoor
open Go Go.RowKit
noncomputable section
set_option maxRecDepth 1000000
theorem nilB_look : runB E2 5 [p0] (Tu [Ag [I 0, I 0, I 0, I 0, I 0], I 1]) = true := by kernel_rfl
theorem nilB_run (k : Int) : runB E2 6 [p0, .int .i64 k] (Tu [Ag [I 0, I 0, .bool false], I 1]) = true := by kernel_rfl
/-! ### a store that begins -/
def begR : Option (Value × AS) := wCall EvBegins (wCode EvBegins 1000000) 4 [I 3, I 64] gs0
def stoR (k : Nat) (s : AS) : Option (Value × AS) := wCall E2 (wCode E2 1000000) 7 [.pointer (some ⟨k, 0, none⟩)] s
def runR (k : Nat) (j : Int) (s : AS) : Option (Value × AS) := wCall E2 (wCode E2 1000000) 6 [.pointer (some ⟨k, 0, none⟩), .int .i64 j] s
def ptrR (r : Option (Value × AS)) (f : Nat → AS → Bool) : Bool := match r with
  | some (.pointer (some ⟨k, 0, none⟩), s) => Bool.rec (motive := fun _ => Bool) false (f k s) (holds s gL)
  | _ => false
def tupR (r : Option (Value × AS)) (f : Nat → AS → Bool) : Bool := match r with
  | some (.tuple ⟨[.pointer (some ⟨k, 0, none⟩), .bool true]⟩, s) => Bool.rec (motive := fun _ => Bool) false (f k s) (holds s gL)
  | _ => false
def didR (x : Nat) (r : Option (Value × AS)) : Bool := match r with
  | some (.tuple ⟨[.agg ⟨[.int .i64 (.ofNat 0), .int .i64 (.ofNat 0), .bool false]⟩, .int .i64 (.ofNat y)]⟩, s) => Bool.rec (motive := fun _ => Bool) false (holds s gL) (Nat.beq y x)
  | _ => false
theorem ptrR_ok {r : Option (Value × AS)} {f : Nat → AS → Bool} (h : ptrR r f = true) : ∃ k s, r = some (.pointer (some ⟨k, 0, none⟩), s) ∧ f k s = true ∧ holds s gL = true := by
  unfold ptrR at h
  split at h
  · obtain ⟨h1, h2⟩ := bbrec h
    exact ⟨_, _, rfl, h2, h1⟩
  · cases h
theorem tupR_ok {r : Option (Value × AS)} {f : Nat → AS → Bool} (h : tupR r f = true) : ∃ k s, r = some (.tuple ⟨[.pointer (some ⟨k, 0, none⟩), .bool true]⟩, s) ∧ f k s = true ∧ holds s gL = true := by
  unfold tupR at h
  split at h
  · obtain ⟨h1, h2⟩ := bbrec h
    exact ⟨_, _, rfl, h2, h1⟩
  · cases h
theorem didR_ok {x : Nat} {r : Option (Value × AS)} (h : didR x r = true) : ∃ s, r = some (.tuple ⟨[.agg ⟨[.int .i64 0, .int .i64 0, .bool false]⟩, .int .i64 (x : Int)]⟩, s) ∧ holds s gL = true := by
  unfold didR at h
  split at h
  · obtain ⟨h1, h2⟩ := bbrec h
    obtain rfl := Nat.eq_of_beq_eq_true h1
    exact ⟨_, rfl, h2⟩
  · cases h
theorem beg_one : tupR begR (fun k s => ptrR (stoR k s) fun q s2 => didR 2 (runR q (.negSucc 0) s2)) = true := by kernel_rfl
theorem beg_neg (n : Nat) : tupR begR (fun k s => ptrR (stoR k s) fun q s2 => didR 2 (runR q (.negSucc (n + 1)) s2)) = true := by kernel_rfl
theorem beg_zero : tupR begR (fun k s => ptrR (stoR k s) fun q s2 => didR 0 (runR q (.ofNat 0) s2)) = true := by kernel_rfl
theorem beg_pos (n : Nat) : tupR begR (fun k s => ptrR (stoR k s) fun q s2 => didR 0 (runR q (.ofNat (n + 1)) s2)) = true := by kernel_rfl
/-- what Run answers at so many steps -/
def ansN : Int → Nat
  | .negSucc _ => 2
  | .ofNat _ => 0
theorem beg_run (j : Int) : tupR begR (fun k s => ptrR (stoR k s) fun q s2 => didR (ansN j) (runR q j s2)) = true := by
  match j with
  | .negSucc 0 => exact beg_one
  | .negSucc (n + 1) => exact beg_neg n
  | .ofNat 0 => exact beg_zero
  | .ofNat (n + 1) => exact beg_pos n
/-- behind a run: what came of the memory of the tables -/
structure Ran (W : World) (s : AS) (ι : Emb) (w : World) : Prop where
  tr : Tr Tryz.prog 7 io0 gs0.mem W ι s.mem w
  tab : holds s gL = true
theorem Ran.below {W : World} (h : TabW W) {s : AS} {ι : Emb} {w : World} (r : Ran W s ι w) : Below W.heap.size W w := by
  have ht := r.tr
  have hh := holds_ok r.tab
  refine ⟨ht.os, ht.tape, ht.output, ht.size, fun j hj => ?_⟩
  by_cases hm : ∃ o, (j, o) ∈ gL
  · obtain ⟨o, hm⟩ := hm
    obtain ⟨hk, c, e, rfl, hf, hu⟩ := gL_row j o hm
    obtain ⟨b, o', hb, hw, hr⟩ := ht.rep.obj j _ (hh _ hm)
    obtain ⟨l1, l2⟩ := ht.le j j (if_pos hk)
    rw [l1] at hb
    cases hb
    have hx : ι.x j = 0 := l2
    rw [hx] at hr
    rw [hw, h.tab _ _ hm, flat_row hf hu hr]
  · refine ht.keep j hj fun k hk hb => ?_
    obtain ⟨o, ho⟩ := Option.ne_none_iff_exists'.1 hk
    have hm2 := gL_get ho
    have hk7 := (gL_row k o hm2).1
    have : io0.b k = some k := if_pos hk7
    rw [this] at hb
    cases hb
    exact hm ⟨o, hm2⟩
theorem Ran.on {W : World} {s : AS} {ι : Emb} {w w' : World} (r : Ran W s ι w) (hb : Below w.heap.size w w') : Ran W s ι w' := ⟨r.tr.trans (Tr.below r.tr.rep hb), r.tab⟩
theorem Ran.call {E : Env} (hE : E.Ok) (hP : E.P = Tryz.prog) (hG : E.C.G = 7) {W : World} {s s' : AS} {ι : Emb} {w : World} (r : Ran W s ι w) {N : Nat} {f : FuncId} {args args' : List Value} {v : Value} (h : wCall E (wCode E N) f args s = some (v, s'))
    (ht : holds s' gL = true) (ha : VRl ι args args') : Calls Tryz.prog f args'.toArray w fun e w' => ∃ ι' v', e = .returned v' ∧ VR ι' v v' ∧ Ran W s' ι' w' := by
  have hc := turbo_ok hE h (ι := ι) (w := w) (args' := args') (by rw [hP, hG]; exact r.tr.rep) ha
  rw [hP, hG] at hc
  refine hc.mono ?_
  rintro e w' ⟨ι', v', rfl, h1, h2⟩
  exact ⟨ι', v', rfl, h2, r.tr.trans h1, ht⟩
theorem Ran.start {W : World} (h : TabW W) : Ran W gs0 io0 W := ⟨Tr.refl (rep0 h), by kernel_rfl⟩
/-- a store that began, and a run of so many steps on it -/
structure Beg (j : Int) (W : World) (b : Nat) (w : World) : Prop where
  run : ∃ (k : Nat) (s : AS) (ι : Emb) (q : Nat) (s2 s3 : AS), Ran W s ι w ∧ ι.b k = some b ∧ stoR k s = some (.pointer (some ⟨q, 0, none⟩), s2) ∧ holds s2 gL = true ∧ runR q j s2 = some (.tuple ⟨[.agg ⟨[.int .i64 0, .int .i64 0, .bool false]⟩, .int .i64 (ansN j : Int)]⟩, s3) ∧ holds s3 gL = true
theorem Beg.on {j : Int} {W : World} {b : Nat} {w w' : World} (h : Beg j W b w) (hb : Below w.heap.size w w') : Beg j W b w' := by
  obtain ⟨k, s, ι, q, s2, s3, hr, h2⟩ := h.run
  exact ⟨k, s, ι, q, s2, s3, hr.on hb, h2⟩
theorem beg_any (j : Int) (W : World) (h : TabW W) : Calls Tryz.prog 4 #[.int .i64 3, .int .i64 64] W fun e w' => ∃ b, e = .returned (.tuple #[.pointer (some ⟨b, 0, none⟩), .bool true]) ∧ Beg j W b w' := by
  obtain ⟨k, s, h1, h2, h3⟩ := tupR_ok (beg_run j)
  obtain ⟨q, s2, h4, h5, h6⟩ := ptrR_ok h2
  obtain ⟨s3, h7, h8⟩ := didR_ok h5
  refine ((Ran.start h).call EvBegins_ok rfl rfl h1 h3 (args' := [I 3, I 64]) (VRl.flat rfl)).mono ?_
  rintro e w' ⟨ι, v, rfl, hv, hr⟩
  cases hv with
  | @tuple c c' hs hc =>
    match c', hs, hc with
    | ⟨[a, b]⟩, _, hc =>
      have ha := hc 0 (Nat.zero_lt_succ _) (Nat.zero_lt_succ _)
      have hb := hc 1 (Nat.lt_succ_self _) (Nat.lt_succ_self _)
      cases ha with
      | ptr hk =>
        cases hb with
        | bool => exact ⟨_, rfl, ⟨k, s, ι, q, s2, s3, hr, hk, h4, h6, h7, h8⟩⟩
def Sto (j : Int) (W : World) (d : Nat) (w : World) : Prop := ∃ (ι : Emb) (q : Nat) (s2 s3 : AS), Ran W s2 ι w ∧ ι.b q = some d ∧ runR q j s2 = some (.tuple ⟨[.agg ⟨[.int .i64 0, .int .i64 0, .bool false]⟩, .int .i64 (ansN j : Int)]⟩, s3) ∧ holds s3 gL = true
/-- its store, and a run on it -/
theorem st_any {j : Int} {W : World} {b : Nat} {w : World} (h : Beg j W b w) : Calls Tryz.prog 7 #[.pointer (some ⟨b, 0, none⟩)] w fun e w' => ∃ d, e = .returned (.pointer (some ⟨d, 0, none⟩)) ∧ Sto j W d w' := by
  obtain ⟨k, s, ι, q, s2, s3, hr, hk, h4, h6, h7, h8⟩ := h.run
  refine (hr.call E2_ok rfl rfl h4 h6 (args' := [.pointer (some ⟨b, 0, none⟩)]) (VRl.cons (.ptr hk) VRl.nil)).mono ?_
  rintro e w' ⟨ι', v, rfl, hv, hr'⟩
  cases hv with
  | ptr hq => exact ⟨_, rfl, ι', q, s2, s3, hr', hq, h7, h8⟩
theorem ru_any {j : Int} {W : World} {d : Nat} {w : World} (h : Sto j W d w) : Calls Tryz.prog 6 #[.pointer (some ⟨d, 0, none⟩), .int .i64 j] w fun e w' => e = .returned (.tuple #[.agg #[.int .i64 0, .int .i64 0, .bool false], .int .i64 (ansN j : Int)]) ∧ ∃ (ι : Emb) (s : AS), Ran W s ι w' := by
  obtain ⟨ι, q, s2, s3, hr, hq, h7, h8⟩ := h
  refine (hr.call E2_ok rfl rfl h7 h8 (args' := [.pointer (some ⟨d, 0, none⟩), .int .i64 j]) (VRl.cons (.ptr hq) (VRl.cons (.int _ _) VRl.nil))).mono ?_
  rintro e w' ⟨ι', v, rfl, hv, hr'⟩
  have := VR.flat2E (v := .tuple ⟨[.agg ⟨[.int .i64 0, .int .i64 0, .bool false]⟩, .int .i64 (ansN j : Int)]⟩) (by first | rfl | (simp [flat2, flat, flat1]; done)) hv
  subst this
  exact ⟨rfl, ι', s3, hr'⟩
end
end Go.Proofs.YtjfdpdnmkoaolaaGreatDoor
namespace Go.Proofs.YtjfdpdnmkoaolaaGreatDoor
open Go Go.RowKit
def NilQ (W : World) (v : Value) (e : Ending) (w' : World) : Prop := e = .returned v ∧ Below W.heap.size W w'
theorem nil_any {f : FuncId} {args : List Value} {v : Value} (hB : runB E2 f args v = true) (hf : args.all flat = true) (hv : flat2 v = true) {W : World} (h : TabW W) : Calls Tryz.prog f args.toArray W (NilQ W v) := run_any E2_ok rfl rfl hB hf hv h
/-- so many steps, at most 1000 -/
def few (k : Int) : Int := min k 1000
theorem ans_few (k : Int) : ((ansN (few k) : Nat) : Int) = 2 ∧ k < 0 ∨ ((ansN (few k) : Nat) : Int) = 0 ∧ ¬ k < 0 := by
  have h : ∀ j : Int, ((ansN j : Nat) : Int) = 2 ∧ j < 0 ∨ ((ansN j : Nat) : Int) = 0 ∧ ¬ j < 0 := fun j => by
    match j with
    | .negSucc n => exact .inl ⟨rfl, Int.negSucc_lt_zero n⟩
    | .ofNat n => exact .inr ⟨rfl, by show ¬ (n : Int) < 0; omega⟩
  rcases h (few k) with ⟨h1, h2⟩ | ⟨h1, h2⟩
  · exact .inl ⟨h1, by unfold few at h2; omega⟩
  · exact .inr ⟨h1, by unfold few at h2; omega⟩
set_option maxHeartbeats 4000000 in
set_option maxRecDepth 20000 in
theorem planNil_any (k : Int) (W : World) (h : TabW W) : Calls Tryz.prog 3 #[.int .i64 k] W (NilQ W (.bool true)) := by
  have HT := hide h
  have HWk := fun W' (h' : TabW W') => hide (wakes_any W' h')
  have HBg := fun W' (h' : TabW W') => hide (beg_any (few k) W' h')
  generalize hQ : NilQ W (.bool true) = Q
  have HQ := hide hQ
  clear h hQ
  go_enter Tryz.func3, Tryz.ntmps3
  go_wp2_with fail
  have HC := HBg W HT.out
  refine HC.out.mono ?_
  rintro e w1 ⟨b, rfl, hs⟩
  have HS1 := hide hs
  obtain ⟨_, _, _, _, _, _, hr, _⟩ := hs.run
  have hb := hr.below HT.out
  have HB1 := hide hb
  have HT1 := hide (HT.out.below hb)
  clear hb hs hr HC
  go_wp2_with fail
  have HC := hide (show Calls Tryz.prog 5 #[.pointer none] w1 (NilQ w1 (.tuple #[.agg #[.int .i64 0, .int .i64 0, .int .i64 0, .int .i64 0, .int .i64 0], .int .i64 1])) from nil_any nilB_look (by simp [flat, flat1]) (by first | (simp [flat2, flat, flat1]; done) | kernel_rfl) HT1.out)
  refine HC.out.mono ?_
  rintro e w2 ⟨rfl, hb⟩
  have HB2 := hide (HB1.out.trans (hb.mono HB1.out.size))
  have HT2 := hide (HT1.out.below hb)
  have HS2 := hide (HS1.out.on hb)
  clear hb HC
  go_wp2_with fail
  have HC := hide (fun W' (h' : TabW W') => (show Calls Tryz.prog 6 #[.pointer none, .int .i64 k] W' (NilQ W' (.tuple #[.agg #[.int .i64 0, .int .i64 0, .bool false], .int .i64 1])) from nil_any (nilB_run k) (by simp [flat, flat1]) (by first | (simp [flat2, flat, flat1]; done) | kernel_rfl) h'))
  have ha : Below w2.heap.size w2 (w2.alloc (.cells #[.int .i64 0, .int .i64 0, .int .i64 0, .int .i64 0, .int .i64 0] 26)) := (Below.refl _ _).alloc (Nat.le_refl _) _
  refine (HC.out _ (HT2.out.below ha)).mono ?_
  rintro e w3 ⟨rfl, hb⟩
  have HB3 := hide (HB2.out.trans ((ha.trans (hb.mono ha.size)).mono HB2.out.size))
  have HT3 := hide (HT2.out.below (ha.trans (hb.mono ha.size)))
  have HS3 := hide (HS2.out.on (ha.trans (hb.mono ha.size)))
  clear hb ha HC
  go_wp2_with fail
  have ha : Below w3.heap.size w3 (w3.alloc (.cells #[.int .i64 0, .int .i64 0, .bool false] 31)) := (Below.refl _ _).alloc (Nat.le_refl _) _
  have HC := hide (st_any (HS3.out.on ha))
  refine HC.out.mono ?_
  rintro e w4 ⟨d, rfl, hd⟩
  have HD := hide hd
  clear hd ha HC
  go_wp2_with fail
  obtain ⟨z, hz, HC⟩ : ∃ z : Int, (z = 2 ∧ k < 0 ∨ z = 0 ∧ ¬ k < 0) ∧ Hid (Calls Tryz.prog 6 #[.pointer (some ⟨d, 0, none⟩), .int .i64 (min k 1000)] w4 fun e w' => e = .returned (.tuple #[.agg #[.int .i64 0, .int .i64 0, .bool false], .int .i64 z]) ∧ ∃ (ι : Emb) (s : AS), Ran W s ι w') :=
    ⟨_, ans_few k, hide (ru_any HD.out)⟩
  have HM : Hid (Below W.heap.size W w4) := by
    obtain ⟨_, _, _, _, hr, _⟩ := HD.out
    exact hide (hr.below HT.out)
  refine HC.out.mono ?_
  rintro e w5 ⟨rfl, ι, s, hr⟩
  have hb := hr.below HT.out
  have HB5 := hide hb
  have HT5 := hide (HT.out.below hb)
  clear hb hr HC
  have ha : Below w5.heap.size w5 (w5.alloc (.cells #[.int .i64 0, .int .i64 0, .bool false] 31)) := (Below.refl _ _).alloc (Nat.le_refl _) _
  have HB6 := hide (HB5.out.trans (ha.mono HB5.out.size))
  have HW6 := HWk _ (HT5.out.below ha)
  clear ha
  rcases hz with ⟨rfl, hk⟩ | ⟨rfl, hk⟩
  all_goals
    go_wp2_with fail
    refine HW6.out.mono ?_
    rintro e w' ⟨rfl, hb⟩
    have HBz := hide (HB6.out.trans (hb.mono HB6.out.size))
    clear hb
    go_wp2_with fail
    rw [← HQ.out]
    first | exact ⟨rfl, HBz.out⟩ | (refine ⟨?_, HBz.out⟩; simp [hk]; done)
end Go.Proofs.YtjfdpdnmkoaolaaGreatDoor
