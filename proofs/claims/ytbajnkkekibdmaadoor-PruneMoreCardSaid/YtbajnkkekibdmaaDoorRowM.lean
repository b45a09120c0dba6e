/- 'armariumlaw32.PruneMore' answers true for every names, every policy, every two counts that are added, every rule and every pin, and what came in reads as it did; the card that ties the listed tables to the program's text. CONDITION, as the row has it: the two tables of unicode/utf8 hold what the program's text lays. -/
import Derived.Test.YtbajnkkekibdmaaDoorRow1
import Derived.Test.YtbajnkkekibdmaaDoorW26
namespace Go.Proofs.YtbajnkkekibdmaaDoor
open Go.ChangeShapes Go.WideShapes Go.ChangeAt Go.RowKit

theorem trodAll_six {H : Type} {enc : TypeId × Value → H} {P : Program} {w : World} {base : Nat} {spare : Nat → Bool} {held : Bool} {t t1 t2 t3 t4 t5 : TypeId} {args : Array Value} {ds : List (DataW H)} {ps : List MemPlace} (h : DataW.TrodAll enc P w base spare held [t, t1, t2, t3, t4, t5] args.toList ds ps) :
    ∃ v v1 v2 v3 v4 v5 d d1 d2 d3 d4 d5 p p1 p2 p3 p4 p5, args = #[v, v1, v2, v3, v4, v5] ∧ ds = [d, d1, d2, d3, d4, d5] ∧ ps = p ++ p1 ++ p2 ++ p3 ++ p4 ++ p5 ∧ DataW.Trod enc P w base spare held t v d p ∧ DataW.Trod enc P w base spare held t1 v1 d1 p1 ∧ DataW.Trod enc P w base spare held t2 v2 d2 p2 ∧ DataW.Trod enc P w base spare held t3 v3 d3 p3 ∧ DataW.Trod enc P w base spare held t4 v4 d4 p4 ∧ DataW.Trod enc P w base spare held t5 v5 d5 p5 := by
  obtain ⟨v, vs, d, ds', p, q, hargs, rfl, rfl, hd, hr⟩ := trodAll_cons h
  obtain ⟨v1, vs1, d1, ds1, p1, q1, rfl, rfl, rfl, hd1, hr1⟩ := trodAll_cons hr
  obtain ⟨v2, vs2, d2, ds2, p2, q2, rfl, rfl, rfl, hd2, hr2⟩ := trodAll_cons hr1
  obtain ⟨v3, vs3, d3, ds3, p3, q3, rfl, rfl, rfl, hd3, hr3⟩ := trodAll_cons hr2
  obtain ⟨v4, vs4, d4, ds4, p4, q4, rfl, rfl, rfl, hd4, hr4⟩ := trodAll_cons hr3
  obtain ⟨v5, vs5, d5, ds5, p5, q5, rfl, rfl, rfl, hd5, hr5⟩ := trodAll_cons hr4
  obtain ⟨rfl, rfl, rfl⟩ := trodAll_nil hr5
  exact ⟨v, v1, v2, v3, v4, v5, d, d1, d2, d3, d4, d5, p, p1, p2, p3, p4, p5, by cases args; simp_all, rfl, by simp, hd, hd1, hd2, hd3, hd4, hd5⟩
theorem u8_range {n : Int} (h : (Lit.int .u8 n).wf = true) : 0 ≤ n ∧ n ≤ 255 := by
  have hw : (decide (IntKind.u8.min ≤ n) && decide (n ≤ IntKind.u8.max)) = true := h
  rw [Bool.and_eq_true, decide_eq_true_eq, decide_eq_true_eq] at hw
  have hmin : IntKind.u8.min = 0 := rfl
  have hmax : IntKind.u8.max = 255 := rfl
  omega
theorem u32_range {n : Int} (h : (Lit.int .u32 n).wf = true) : 0 ≤ n ∧ n < 4294967296 := by
  have hw : (decide (IntKind.u32.min ≤ n) && decide (n ≤ IntKind.u32.max)) = true := h
  rw [Bool.and_eq_true, decide_eq_true_eq, decide_eq_true_eq] at hw
  have hmin : IntKind.u32.min = 0 := rfl
  have hmax : IntKind.u32.max = 4294967295 := rfl
  omega

set_option maxRecDepth 100000 in
theorem more_contract (H : Type) (enc : TypeId × Value → H) (W : World) (base : Nat) (args : Array Value) (ds gs : List (DataW H)) (before : List MemPlace)
    (hval : ∀ (j : Nat) t v, Tryd.f5.params[j]? = some t → args[j]? = some v → Value.okWide Tryd.prog W .any base t v)
    (hW : DataW.Whole enc Tryd.prog Tryd.f5.params.toList Rows.pruneMoreSpec.vars false W args.toList ds gs before) :
    Calls Tryd.prog 5 args W fun e W' => ∃ v, e = .returned v ∧ Rows.pruneMoreSpec.post enc Tryd.prog Tryd.f5 false true false false W args v W' := by
  have hW' := hW
  obtain ⟨p, q, hA0, hV, rfl, hfz, hnd⟩ := hW
  have hA : DataW.TrodAll enc Tryd.prog W 0 (fun _ => true) true Tryd.f5.params.toList args.toList ds p := hA0
  rw [Tryd.params5] at hA hval
  obtain ⟨v1, v2, v3, v4, v5, v6, d1, d2, d3, d4, d5, d6, p1, p2, p3, p4, p5, p6, rfl, rfl, rfl, h1, h2, h3, h4, h5, h6⟩ := trodAll_six hA
  obtain ⟨rfl, rfl⟩ := trodVars_none hV
  obtain ⟨A, ss, cap, rfl, hss, hsl, hst⟩ := open_namesArg (hval 0 22 v1 rfl rfl) h1
  obtain ⟨po, RA, PA, rc, pc, rfl, hpo, hsp⟩ := open_policy (hval 1 25 v2 rfl rfl) h2
  obtain ⟨la, rfl, _, _, w3⟩ := open_int Tryd.underlying5 (hval 2 5 v3 rfl rfl) h3
  obtain ⟨co, rfl, _, _, w4⟩ := open_int Tryd.underlying5 (hval 3 5 v4 rfl rfl) h4
  obtain ⟨u0, u1, y0, y1, n5, rfl, _, _, t0, t1⟩ := Joins.open_agg2 Tryd.underlying46 (by kernel_rfl) (by kernel_rfl) (hval 4 46 v5 rfl rfl) h5
  obtain ⟨sp, e0, _, w5⟩ := DataW.trod_int Tryd.underlying28 t0
  obtain ⟨cn, e1, _, _⟩ := DataW.trod_int Tryd.underlying3 t1
  injection e0 with e0
  injection e1 with e1
  subst e0 e1
  obtain ⟨pin, rfl, _, _, hpin⟩ := ChangeMaps.open_string Tryd.underlying9 (hval 5 9 v6 rfl rfl) h6
  obtain ⟨a3, b3⟩ := u8_range w3
  obtain ⟨a4, b4⟩ := u8_range w4
  obtain ⟨a5, b5⟩ := u32_range w5
  refine (pruneMore_any po RA PA rc pc A cap ss la co sp cn pin W ⟨hpo, hss, hsl, hst, hsp⟩ hpin a3 b3 a4 b4 a5 b5).mono fun e W' he => ?_
  obtain ⟨rfl, hb⟩ := he
  exact ⟨_, rfl, post_law rfl (by kernel_rfl) (by kernel_rfl) rfl rfl rfl hW' hb⟩
theorem laid_met_more (os : Os) : laidMet Tryd.prog Rows.pruneMoreRow.laid ((laidWorld os).forCall (fun _ _ => 0) ⟨#[], #[.slice Option.none 0 0, noPolicy, .int .u8 0, .int .u8 0, .agg #[.int .u32 0, .int .i64 0], .string ByteArray.empty], []⟩).memory :=
  laidMet_of_run' 8 (by kernel_rfl) (by kernel_rfl)
theorem more_reads (os : Os) {H : Type} (enc : TypeId × Value → H) : ∃ x : List (DataW H) × List (DataW H) × List MemPlace, DataW.whole enc Tryd.prog ((laidWorld os).forCall (fun _ _ => 0) ⟨#[], #[.slice Option.none 0 0, noPolicy, .int .u8 0, .int .u8 0, .agg #[.int .u32 0, .int .i64 0], .string ByteArray.empty], []⟩).memory Tryd.f5.params.toList Rows.pruneMoreSpec.vars false #[Value.slice Option.none 0 0, noPolicy, .int .u8 0, .int .u8 0, .agg #[.int .u32 0, .int .i64 0], .string ByteArray.empty].toList 8 = some x :=
  ⟨([.nil, .agg [.lit (.int .i64 0), .nil, .nil], .lit (.int .u8 0), .lit (.int .u8 0), .agg [.lit (.int .u32 0), .lit (.int .i64 0)], .lit (.string [])], [], []), by kernel_rfl⟩

set_option maxRecDepth 100000 in
theorem more_lifted (os : Os) (started : os.Started) (H : Type) (enc : TypeId × Value → H) (F : Stop.Interp) :
    ReturnsInHanded {} Tryd.checked os 5 .any ((OpenSpec.ofChange Rows.pruneMoreSpec).preRow enc Tryd.prog Tryd.f5 Rows.pruneMoreRow.domain false Rows.pruneMoreRow.laid) (((OpenSpec.ofChange Rows.pruneMoreSpec).at F).post enc Tryd.prog Tryd.f5 false true false false) := by
  obtain ⟨x, hx⟩ := more_reads os enc
  refine returnsInHanded_of_row (C := Tryd.checked) (s := OpenSpec.ofChange Rows.pruneMoreSpec) own started (by kernel_rfl) Tryd.func5
    (witness_row_at (enc := enc) (C := Tryd.checked) false (laidWorld os) #[.slice Option.none 0 0, noPolicy, .int .u8 0, .int .u8 0, .agg #[.int .u32 0, .int .i64 0], .string ByteArray.empty] rfl (by kernel_rfl) (by kernel_rfl) (by kernel_rfl)
      (OpenSpec.preRow_of_cond 8 hx (by kernel_rfl) (fun k hk => by cases hk) (by kernel_rfl) (laid_met_more os))) ?_
  intro W base args ds gs before hval hW _ _ _ _ _ _
  exact more_contract H enc W base args ds gs before hval hW

theorem more_said : Rows.PruneMoreSaid :=
  OpenClaim.holds_of_cond 5 Tryd.f5 rfl rfl rfl rfl rfl rfl rfl ⟨rfl, rfl, rfl, rfl, rfl⟩ rfl rfl rfl rfl rfl (by kernel_rfl) Tryd.func5 (by kernel_rfl)
    (of_decide_eq_true (by kernel_rfl)) (by unfold Func.isWrapper; first | (rw [if_pos (by decide +kernel)]; kernel_rfl) | (rw [if_neg (by decide +kernel)]; exact ⟨rfl, rfl⟩))
    (fun os started H enc _ F => by rw [OpenClaim.pre_eq_preRow]; exact more_lifted os started H enc F)

/-- No parameter wants a stand-in; the program's own looks are off: what the card asks. -/
theorem more_plain (f : FuncId) (fn : Func) (hf : Tryd.pinned.checked.prog.funcNamed "armarium/armariumlaw32.PruneMore" = some f) (hfn : Tryd.pinned.checked.prog.funcs[f]? = some fn) :
    false = Tryd.pinned.checked.prog.looks [] ∧ ∀ (j : Nat) t, fn.params[j]? = some t → Tryd.pinned.checked.prog.wantsStandIn t = false := by
  obtain rfl : f = 5 := Option.some.inj ((show Tryd.prog.funcNamed "armarium/armariumlaw32.PruneMore" = some 5 by kernel_rfl).symm.trans hf) |>.symm
  obtain rfl : fn = Tryd.f5 := (Option.some.inj (Tryd.func5.symm.trans hfn)).symm
  refine ⟨by kernel_rfl, fun j t ht => ?_⟩
  rw [Tryd.params5] at ht
  have hall : (#[22, 25, 5, 5, 46, 9] : Array TypeId).all (fun t => !Tryd.prog.wantsStandIn t) = true := by kernel_rfl
  have h := Array.all_eq_true'.1 hall t (Array.mem_of_getElem? ht)
  rwa [Bool.not_eq_true'] at h

/-- ████ THE CARD ████ -/
theorem pruneMore_card : Rows.PruneMoreCardSaid :=
  Claim7.holds_tied_plain_at .later [] _ _ _ _ more_said (fun _ h => by cases h) (by kernel_rfl) (fun _ h => by cases h) pruneMore_row_tie rfl ⟨rfl, rfl⟩ (by kernel_rfl) rfl more_plain (by kernel_rfl)
end Go.Proofs.YtbajnkkekibdmaaDoor
