/- 'armariumlaw39.FenceBest' answers true for every number of sectors, and what came in reads as it did; the card that ties the listed tables to the program's text. CONDITION, as the row has it: the tables of packages crc, math/bits and unicode/utf8 hold what the program's text lays. -/
import Derived.Test.YtnnfiicmplkakaaGreatDoorQ12
import Derived.Lib.SmallJoins
namespace Go.Proofs.YtnnfiicmplkakaaGreatDoor
open Go.ChangeShapes Go.WideShapes Go.ChangeAt Go.RowKit

theorem u16_range {n : Int} (h : (Lit.int .u16 n).wf = true) : 0 ≤ n ∧ n < 65536 := by
  have hw : (decide (IntKind.u16.min ≤ n) && decide (n ≤ IntKind.u16.max)) = true := h
  rw [Bool.and_eq_true, decide_eq_true_eq, decide_eq_true_eq] at hw
  have hmin : IntKind.u16.min = 0 := rfl
  have hmax : IntKind.u16.max = 65535 := rfl
  omega
set_option maxRecDepth 100000 in
theorem best_contract (H : Type) (enc : TypeId × Value → H) (W : World) (base : Nat) (args : Array Value) (ds gs : List (DataW H)) (before : List MemPlace)
    (hval : ∀ (j : Nat) t v, Tryz.f3.params[j]? = some t → args[j]? = some v → Value.okWide Tryz.prog W .any base t v)
    (hW : DataW.Whole enc Tryz.prog Tryz.f3.params.toList Rows.fenceBestSpec.vars false W args.toList ds gs before) (hL : laidMet Tryz.prog Rows.fenceBestRow.laid W) :
    Calls Tryz.prog 3 args W fun e W' => ∃ v, e = .returned v ∧ Rows.fenceBestSpec.post enc Tryz.prog Tryz.f3 false true false false W args v W' := by
  have hW' := hW
  obtain ⟨p, q, hA0, hV, rfl, hfz, hnd⟩ := hW
  have hA : DataW.TrodAll enc Tryz.prog W 0 (fun _ => true) true Tryz.f3.params.toList args.toList ds p := hA0
  rw [Tryz.params3] at hA hval
  obtain ⟨v0, d0, rfl, rfl, h0⟩ := trodAll_one hA
  obtain ⟨rfl, rfl⟩ := trodVars_none hV
  obtain ⟨n, rfl, _, _, w0⟩ := open_int Tryz.underlying22 (hval 0 22 v0 rfl rfl) h0
  have hb : 0 ≤ n ∧ n < 65536 := u16_range w0
  obtain ⟨ht, htz⟩ := tab_of hL
  have hsz : 0 < W.heap.size ∧ 1 < W.heap.size := ⟨cell_lt (ht 0 (by decide)), cell_lt (htz 0 (by decide))⟩
  refine (fenceBest_any n hb W ht htz hsz).mono fun e W' he => ?_
  obtain ⟨rfl, hbl⟩ := he
  exact ⟨_, rfl, post_law rfl (by kernel_rfl) (by kernel_rfl) rfl rfl rfl hW' hbl⟩
theorem best_reads (os : Os) {H : Type} (enc : TypeId × Value → H) : ∃ x : List (DataW H) × List (DataW H) × List MemPlace, DataW.whole enc Tryz.prog ((laidWorld os).forCall (fun _ _ => 0) ⟨#[], #[.int .u16 0], []⟩).memory Tryz.f3.params.toList Rows.fenceBestSpec.vars false #[Value.int .u16 0].toList 8 = some x :=
  ⟨([.lit (.int .u16 0)], [], []), by kernel_rfl⟩

set_option maxRecDepth 100000 in
theorem best_lifted (os : Os) (started : os.Started) (H : Type) (enc : TypeId × Value → H) (F : Stop.Interp) :
    ReturnsInHanded {} Tryz.checked os 3 .any ((OpenSpec.ofChange Rows.fenceBestSpec).preRow enc Tryz.prog Tryz.f3 Rows.fenceBestRow.domain false Rows.fenceBestRow.laid) (((OpenSpec.ofChange Rows.fenceBestSpec).at F).post enc Tryz.prog Tryz.f3 false true false false) := by
  obtain ⟨x, hx⟩ := best_reads os enc
  refine returnsInHanded_of_row (C := Tryz.checked) (s := OpenSpec.ofChange Rows.fenceBestSpec) own started (by kernel_rfl) Tryz.func3
    (witness_row_at (enc := enc) (C := Tryz.checked) false (laidWorld os) #[.int .u16 0] rfl (by kernel_rfl) (by kernel_rfl) (by kernel_rfl)
      (OpenSpec.preRow_of_cond 8 hx (by kernel_rfl) (fun k hk => by cases hk) (by kernel_rfl) (laid_met_best os))) ?_
  intro W base args ds gs before hval hW _ _ _ hL _ _
  exact best_contract H enc W base args ds gs before hval hW hL

theorem best_said : Rows.FenceBestSaid :=
  OpenClaim.holds_of_cond 3 Tryz.f3 rfl rfl rfl rfl rfl rfl rfl ⟨rfl, rfl, rfl, rfl, rfl⟩ rfl rfl rfl rfl rfl (by kernel_rfl) Tryz.func3 (by kernel_rfl)
    (of_decide_eq_true (by kernel_rfl)) (by unfold Func.isWrapper; first | (rw [if_pos (by decide +kernel)]; kernel_rfl) | (rw [if_neg (by decide +kernel)]; exact ⟨rfl, rfl⟩))
    (fun os started H enc _ F => by rw [OpenClaim.pre_eq_preRow]; exact best_lifted os started H enc F)

/-- No parameter wants a stand-in; the program's own looks are off: what the card asks. -/
theorem best_plain (f : FuncId) (fn : Func) (hf : Tryz.pinned.checked.prog.funcNamed "armarium/armariumlaw39.FenceBest" = some f) (hfn : Tryz.pinned.checked.prog.funcs[f]? = some fn) :
    true = Tryz.pinned.checked.prog.looks [] ∧ ∀ (j : Nat) t, fn.params[j]? = some t → Tryz.pinned.checked.prog.wantsStandIn t = false := by
  obtain rfl : f = 3 := Option.some.inj ((show Tryz.prog.funcNamed "armarium/armariumlaw39.FenceBest" = some 3 by kernel_rfl).symm.trans hf) |>.symm
  obtain rfl : fn = Tryz.f3 := (Option.some.inj (Tryz.func3.symm.trans hfn)).symm
  refine ⟨by kernel_rfl, fun j t ht => ?_⟩
  rw [Tryz.params3] at ht
  have hall : (#[22] : Array TypeId).all (fun t => !Tryz.prog.wantsStandIn t) = true := by kernel_rfl
  have h := Array.all_eq_true'.1 hall t (Array.mem_of_getElem? ht)
  rwa [Bool.not_eq_true'] at h

/-- ████ THE CARD ████ -/
theorem fenceBest_card : Rows.FenceBestCardSaid :=
  Claim7.holds_tied_plain_at .later [] _ _ _ _ best_said (fun _ h => by cases h) (by kernel_rfl) (fun _ h => by cases h) fenceBest_row_tie rfl ⟨rfl, rfl⟩ (by kernel_rfl) rfl best_plain (by kernel_rfl)
end Go.Proofs.YtnnfiicmplkakaaGreatDoor
