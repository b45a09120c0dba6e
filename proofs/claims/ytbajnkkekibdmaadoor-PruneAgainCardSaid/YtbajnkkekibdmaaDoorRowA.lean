/- 'armariumlaw32.PruneAgain' answers true for every names and every policy, and what came in reads as it did; the card that ties the listed tables to the program's text. CONDITION, as the row has it: the two tables of unicode/utf8 hold what the program's text lays. -/
import Derived.Test.YtbajnkkekibdmaaDoorRow1
import Derived.Test.YtbajnkkekibdmaaDoorW24
namespace Go.Proofs.YtbajnkkekibdmaaDoor
open Go.ChangeShapes Go.WideShapes Go.ChangeAt Go.RowKit

set_option maxRecDepth 100000 in
theorem again_contract (H : Type) (enc : TypeId × Value → H) (W : World) (base : Nat) (args : Array Value) (ds gs : List (DataW H)) (before : List MemPlace)
    (hval : ∀ (j : Nat) t v, Tryd.f4.params[j]? = some t → args[j]? = some v → Value.okWide Tryd.prog W .any base t v)
    (hW : DataW.Whole enc Tryd.prog Tryd.f4.params.toList Rows.pruneAgainSpec.vars false W args.toList ds gs before) :
    Calls Tryd.prog 4 args W fun e W' => ∃ v, e = .returned v ∧ Rows.pruneAgainSpec.post enc Tryd.prog Tryd.f4 false true false false W args v W' := by
  have hW' := hW
  obtain ⟨p, q, hA0, hV, rfl, hfz, hnd⟩ := hW
  have hA : DataW.TrodAll enc Tryd.prog W 0 (fun _ => true) true Tryd.f4.params.toList args.toList ds p := hA0
  rw [Tryd.params4] at hA hval
  obtain ⟨v1, v2, d1, d2, p1, p2, rfl, rfl, rfl, h1, h2⟩ := trodAll_two hA
  obtain ⟨rfl, rfl⟩ := trodVars_none hV
  obtain ⟨A, ss, cap, rfl, hss, hsl, hst⟩ := open_namesArg (hval 0 22 v1 rfl rfl) h1
  obtain ⟨po, RA, PA, rc, pc, rfl, hpo, hsp⟩ := open_policy (hval 1 25 v2 rfl rfl) h2
  refine (pruneAgain_any po RA PA rc pc A cap ss W ⟨hpo, hss, hsl, hst, hsp⟩).mono fun e W' he => ?_
  obtain ⟨rfl, hb⟩ := he
  exact ⟨_, rfl, post_law rfl (by kernel_rfl) (by kernel_rfl) rfl rfl rfl hW' hb⟩
theorem laid_met_again (os : Os) : laidMet Tryd.prog Rows.pruneAgainRow.laid ((laidWorld os).forCall (fun _ _ => 0) ⟨#[], #[.slice Option.none 0 0, noPolicy], []⟩).memory :=
  laidMet_of_run' 8 (by kernel_rfl) (by kernel_rfl)
theorem again_reads (os : Os) {H : Type} (enc : TypeId × Value → H) : ∃ x : List (DataW H) × List (DataW H) × List MemPlace, DataW.whole enc Tryd.prog ((laidWorld os).forCall (fun _ _ => 0) ⟨#[], #[.slice Option.none 0 0, noPolicy], []⟩).memory Tryd.f4.params.toList Rows.pruneAgainSpec.vars false #[Value.slice Option.none 0 0, noPolicy].toList 8 = some x :=
  ⟨([.nil, .agg [.lit (.int .i64 0), .nil, .nil]], [], []), by kernel_rfl⟩

set_option maxRecDepth 100000 in
theorem again_lifted (os : Os) (started : os.Started) (H : Type) (enc : TypeId × Value → H) (F : Stop.Interp) :
    ReturnsInHanded {} Tryd.checked os 4 .any ((OpenSpec.ofChange Rows.pruneAgainSpec).preRow enc Tryd.prog Tryd.f4 Rows.pruneAgainRow.domain false Rows.pruneAgainRow.laid) (((OpenSpec.ofChange Rows.pruneAgainSpec).at F).post enc Tryd.prog Tryd.f4 false true false false) := by
  obtain ⟨x, hx⟩ := again_reads os enc
  refine returnsInHanded_of_row (C := Tryd.checked) (s := OpenSpec.ofChange Rows.pruneAgainSpec) own started (by kernel_rfl) Tryd.func4
    (witness_row_at (enc := enc) (C := Tryd.checked) false (laidWorld os) #[.slice Option.none 0 0, noPolicy] rfl (by kernel_rfl) (by kernel_rfl) (by kernel_rfl)
      (OpenSpec.preRow_of_cond 8 hx (by kernel_rfl) (fun k hk => by cases hk) (by kernel_rfl) (laid_met_again os))) ?_
  intro W base args ds gs before hval hW _ _ _ _ _ _
  exact again_contract H enc W base args ds gs before hval hW

theorem again_said : Rows.PruneAgainSaid :=
  OpenClaim.holds_of_cond 4 Tryd.f4 rfl rfl rfl rfl rfl rfl rfl ⟨rfl, rfl, rfl, rfl, rfl⟩ rfl rfl rfl rfl rfl (by kernel_rfl) Tryd.func4 (by kernel_rfl)
    (of_decide_eq_true (by kernel_rfl)) (by unfold Func.isWrapper; first | (rw [if_pos (by decide +kernel)]; kernel_rfl) | (rw [if_neg (by decide +kernel)]; exact ⟨rfl, rfl⟩))
    (fun os started H enc _ F => by rw [OpenClaim.pre_eq_preRow]; exact again_lifted os started H enc F)

/-- No parameter wants a stand-in; the program's own looks are off: what the card asks. -/
theorem again_plain (f : FuncId) (fn : Func) (hf : Tryd.pinned.checked.prog.funcNamed "armarium/armariumlaw32.PruneAgain" = some f) (hfn : Tryd.pinned.checked.prog.funcs[f]? = some fn) :
    false = Tryd.pinned.checked.prog.looks [] ∧ ∀ (j : Nat) t, fn.params[j]? = some t → Tryd.pinned.checked.prog.wantsStandIn t = false := by
  obtain rfl : f = 4 := Option.some.inj ((show Tryd.prog.funcNamed "armarium/armariumlaw32.PruneAgain" = some 4 by kernel_rfl).symm.trans hf) |>.symm
  obtain rfl : fn = Tryd.f4 := (Option.some.inj (Tryd.func4.symm.trans hfn)).symm
  refine ⟨by kernel_rfl, fun j t ht => ?_⟩
  rw [Tryd.params4] at ht
  have hall : (#[22, 25] : Array TypeId).all (fun t => !Tryd.prog.wantsStandIn t) = true := by kernel_rfl
  have h := Array.all_eq_true'.1 hall t (Array.mem_of_getElem? ht)
  rwa [Bool.not_eq_true'] at h

/-- ████ THE CARD ████ -/
theorem pruneAgain_card : Rows.PruneAgainCardSaid :=
  Claim7.holds_tied_plain_at .later [] _ _ _ _ again_said (fun _ h => by cases h) (by kernel_rfl) (fun _ h => by cases h) pruneAgain_row_tie rfl ⟨rfl, rfl⟩ (by kernel_rfl) rfl again_plain (by kernel_rfl)
end Go.Proofs.YtbajnkkekibdmaaDoor
