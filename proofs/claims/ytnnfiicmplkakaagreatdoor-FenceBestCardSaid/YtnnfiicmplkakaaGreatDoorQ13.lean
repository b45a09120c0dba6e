/- 'armariumlaw39.FenceBest' answers true for every number of sectors, and what came in reads as it did; the card that ties the listed tables to the program's text. CONDITION, as the row has it: the tables of packages crc, math/bits and unicode/utf8 hold what the program's text lays. -/
import Derived.Test.YtnnfiicmplkakaaGreatDoorCards
import Derived.Test.YtnnfiicmplkakaaGreatDoorTie
import Derived.Test.YtnnfiicmplkakaaGreatDoorQ12
import Derived.Stop.LaidErr
import Derived.WalkKit
import Derived.ProofKit
import Derived.OpenShut
import Derived.Carry
import Derived.ChangeSame
import Derived.Deep.DeepHandedRow
import Derived.Lib.LaidTab
import Derived.Lib.SmallJoins
namespace Go.Proofs.YtnnfiicmplkakaaGreatDoor
open Go.ChangeShapes Go.WideShapes Go.ChangeAt Go.RowKit

theorem own : ownKnob Tryz.prog.godebug = none := by kernel_rfl
theorem laidOut : laidOutB Tryz.prog = true := by kernel_rfl

section
variable {H : Type} {enc : TypeId × Value → H} {W W' : World}
/-- the types of the parameters are read whole -/
noncomputable def readable (ts : List TypeId) : Bool := ts.all fun t => Tryz.prog.readableRec t && decide (t < Tryz.prog.types.size)
theorem all_again (hb : Below W.heap.size W W') {sp : Nat → Bool} (ts : List TypeId) : ∀ (vs : List Value) (ds : List (DataW H)) (ps : List MemPlace), readable ts = true → DataW.TrodAll enc Tryz.prog W 0 (fun _ => true) true ts vs ds ps →
    (∀ x ∈ ps, x.block < W.heap.size) → (∀ x ∈ ps, sp x.block = true) → DataW.TrodAll enc Tryz.prog W' 0 sp true ts vs ds ps := by
  induction ts with
  | nil =>
    intro vs ds ps _ h _ _
    obtain ⟨rfl, rfl, rfl⟩ := trodAll_nil h
    exact trodAll_mk0
  | cons t ts ih =>
    intro vs ds ps hr h hl hs
    obtain ⟨v, vs', d, ds', p, q, rfl, rfl, rfl, h1, h2⟩ := trodAll_cons h
    unfold readable at hr ih
    rw [List.all_cons, Bool.and_eq_true, Bool.and_eq_true, decide_eq_true_eq] at hr
    exact trodAll_cons_mk (WideElems.Trod_stays laidOut hr.1.1 hr.1.2 h1 (fun x hx => hb.same (hl x (List.mem_append_left _ hx))) (fun x hx => hs x (List.mem_append_left _ hx)))
      (ih _ _ _ hr.2 h2 (fun x hx => hl x (List.mem_append_right _ hx)) (fun x hx => hs x (List.mem_append_right _ hx)))

set_option maxRecDepth 100000 in
/-- The post of a law that answers true and turns nothing that stood. -/
theorem post_law {f : Func} {s : ChangeSpec} {apart fresh handsOn again : Bool} {args : Array Value} {ds gs : List (DataW H)} {before : List MemPlace} (hvars : s.vars = []) (hr : readable f.params.toList = true) (ht : f.resultTypes = #[4])
    (hres : (s.fn H (ds ++ gs)).results = [.lit (.bool true)]) (hargs : (s.fn H (ds ++ gs)).args = ds) (hvs : (s.fn H (ds ++ gs)).vars = [])
    (hW : DataW.Whole enc Tryz.prog f.params.toList s.vars apart W args.toList ds gs before) (hb : Below W.heap.size W W') :
    s.post enc Tryz.prog f apart fresh handsOn again W args (.bool true) W' := by
  have hlt : ∀ p ∈ before, p.block < W.heap.size := fun p hp => hW.lt p hp
  have hold : ∀ p ∈ before, (fun b => decide (b < W.heap.size)) p.block = true := fun p hp => by simpa using hlt p hp
  have hW' := hW
  obtain ⟨pa, pv, hA, hV, hps, hz, hn⟩ := hW'
  have hpv : pv = [] := by
    rw [hvars] at hV
    exact (trodVars_none hV).2
  subst hpv
  rw [List.append_nil] at hps
  subst hps
  have ha : ∀ sp : Nat → Bool, (∀ p ∈ before, sp p.block = true) → DataW.TrodAll enc Tryz.prog W' 0 sp true f.params.toList args.toList (s.fn H (ds ++ gs)).args before := fun sp hsp => by
    rw [hargs]
    exact all_again hb _ _ _ _ hr hA hlt hsp
  have hv : ∀ sp : Nat → Bool, DataW.TrodVars enc Tryz.prog W' sp s.vars (s.fn H (ds ++ gs)).vars [] := fun sp => by
    rw [hvars, hvs]
    rfl
  have hrs : ∀ (b : Nat) (sp : Nat → Bool) (hd : Bool), DataW.TrodAll enc Tryz.prog W' b sp hd f.resultTypes.toList ((Value.bool true).resultList f.resultTypes.size) (s.fn H (ds ++ gs)).results [] := fun b sp hd => by
    rw [hres, ht]
    exact trodAll_mk1 (shut_bool Tryz.underlying4 _)
  refine ⟨ds, gs, before, [], before, [], hW, hrs _ _ _, ha _ hold, hv _, World.keptBut_mono (fun p hp => ⟨hp, ?_⟩) (hb.frame (· ∈ before)), fun _ => ?_⟩
  · simp [hp]
  · refine ⟨ok_one ht rfl (okWide_bool_mk Tryz.underlying4 _), _, _, ([] ++ before) ++ [], ⟨[] ++ before, [], trodAll_append (ha _ (fun _ _ => rfl)) (hrs _ _ _), hv _, rfl, ?_, ?_⟩, ?_⟩
    · intro b off hp
      have hin : MemPlace.cell b off ∈ before := by simpa using hp
      rw [hb.frozen (hlt _ hin)]
      exact hz b off hin
    · intro ha
      simpa using hn ha
    · intro p hp _
      simpa using hp
end

/-- a block's cells laid anew -/
def fillCells (cs : Array Value) : Obj → Obj
  | .cells _ t frozen => .cells cs t frozen
  | o => o
def rangesZ : List Int := [128, 191, 160, 191, 128, 159, 144, 191, 128, 143] ++ List.replicate 22 0
/-- A WORLD FOR THE WITNESS: the settled one, the four tables holding what their initialisers lay. -/
noncomputable def laidWorld (os : Os) : World :=
  { World.holding Tryz.prog os ⟨#[], #[], []⟩ with heap := ((((World.holding Tryz.prog os ⟨#[], #[], []⟩).heap.modify 0 (fillCells (halves.map fun z => Value.int .u32 z).toArray)).modify 1 (fillCells (Lib.deBruijn64tab.map fun z => Value.int .u8 (z : Nat)).toArray)).modify 3 (fillCells (Pinned.utf8FirstZ.map fun z => Value.int .u8 (z : Nat)).toArray)).modify 4 (fillCells (rangesZ.map fun z => Value.int .u8 z).toArray) }
theorem laid_met_best (os : Os) : laidMet Tryz.prog Rows.fenceBestRow.laid ((laidWorld os).forCall (fun _ _ => 0) ⟨#[], #[.int .u16 0], []⟩).memory :=
  laidMet_of_run' 8 (by kernel_rfl) (by kernel_rfl)
theorem tab_of {W : World} (h : laidMet Tryz.prog Rows.fenceBestRow.laid W) : Tab W ∧ TabZ W := by
  have h1 : Lib.TabIs Tryz.prog W "armarium/crc.halves" .u32 halves := Lib.tabIs_of_head (g := 0) (t := 276) (e := 168) (n := 16) (by kernel_rfl) (by kernel_rfl) Tryz.underlying276 Tryz.underlying168 (by kernel_rfl) (by kernel_rfl) h
  have h2 : Lib.TabIs Tryz.prog W "math/bits.deBruijn64tab" .u8 (Lib.deBruijn64tab.map fun (z : Nat) => (z : Int)) := Lib.tabIs_of_head (g := 1) (t := 289) (e := 5) (n := 64) (by kernel_rfl) (by kernel_rfl) Tryz.underlying289 Tryz.underlying5 (by kernel_rfl) (by kernel_rfl) (laidMet.tail h)
  refine ⟨fun j hj => h1.cell (by kernel_rfl) j hj, fun j hj => ?_⟩
  have h3 := h2.cell (g := 1) (by kernel_rfl) j (by rw [List.length_map]; exact hj)
  rw [h3]
  congr 2
  simp [List.getD, hj]
end Go.Proofs.YtnnfiicmplkakaaGreatDoor
namespace Go.Proofs.YtnnfiicmplkakaaGreatDoor
open Go.ChangeShapes Go.WideShapes Go.ChangeAt Go.RowKit

theorem u16_range {n : Int} (h : (Lit.int .u16 n).wf = true) : 0 ≤ n ∧ n < 65536 := by
  have hw : (decide (IntKind.u16.min ≤ n) && decide (n ≤ IntKind.u16.max)) = true := h
  rw [Bool.and_eq_true, decide_eq_true_eq, decide_eq_true_eq] at hw
  have hmin : IntKind.u16.min = 0 := rfl
  have hmax : IntKind.u16.max = 65535 := rfl
  omega
set_option maxRecDepth 100000 in
theorem best_contract (H : Type) (enc : TypeId × Value → H) (W : World) (base : Nat) (args : Array Value) (ds gs : List (DataW H)) (before : List MemPlace)
    (hval : ∀ (j : Nat) t v, Tryz.f3.params[j]? = some t → args[j]? = some v → Value.okWide Tryz.prog W .any base t v)
    (hW : DataW.Whole enc Tryz.prog Tryz.f3.params.toList Rows.fenceBestSpec.vars false W args.toList ds gs before) (hL : laidMet Tryz.prog Rows.fenceBestRow.laid W) :
    Calls Tryz.prog 3 args W fun e W' => ∃ v, e = .returned v ∧ Rows.fenceBestSpec.post enc Tryz.prog Tryz.f3 false true false false W args v W' := by
  have hW' := hW
  obtain ⟨p, q, hA0, hV, rfl, hfz, hnd⟩ := hW
  have hA : DataW.TrodAll enc Tryz.prog W 0 (fun _ => true) true Tryz.f3.params.toList args.toList ds p := hA0
  rw [Tryz.params3] at hA hval
  obtain ⟨v0, d0, rfl, rfl, h0⟩ := trodAll_one hA
  obtain ⟨rfl, rfl⟩ := trodVars_none hV
  obtain ⟨n, rfl, _, _, w0⟩ := open_int Tryz.underlying22 (hval 0 22 v0 rfl rfl) h0
  have hb : 0 ≤ n ∧ n < 65536 := u16_range w0
  obtain ⟨ht, htz⟩ := tab_of hL
  have hsz : 0 < W.heap.size ∧ 1 < W.heap.size := ⟨cell_lt (ht 0 (by decide)), cell_lt (htz 0 (by decide))⟩
  refine (fenceBest_any n hb W ht htz hsz).mono fun e W' he => ?_
  obtain ⟨rfl, hbl⟩ := he
  exact ⟨_, rfl, post_law rfl (by kernel_rfl) (by kernel_rfl) rfl rfl rfl hW' hbl⟩
theorem best_reads (os : Os) {H : Type} (enc : TypeId × Value → H) : ∃ x : List (DataW H) × List (DataW H) × List MemPlace, DataW.whole enc Tryz.prog ((laidWorld os).forCall (fun _ _ => 0) ⟨#[], #[.int .u16 0], []⟩).memory Tryz.f3.params.toList Rows.fenceBestSpec.vars false #[Value.int .u16 0].toList 8 = some x :=
  ⟨([.lit (.int .u16 0)], [], []), by kernel_rfl⟩

set_option maxRecDepth 100000 in
theorem best_lifted (os : Os) (started : os.Started) (H : Type) (enc : TypeId × Value → H) (F : Stop.Interp) :
    ReturnsInHanded {} Tryz.checked os 3 .any ((OpenSpec.ofChange Rows.fenceBestSpec).preRow enc Tryz.prog Tryz.f3 Rows.fenceBestRow.domain false Rows.fenceBestRow.laid) (((OpenSpec.ofChange Rows.fenceBestSpec).at F).post enc Tryz.prog Tryz.f3 false true false false) := by
  obtain ⟨x, hx⟩ := best_reads os enc
  refine returnsInHanded_of_row (C := Tryz.checked) (s := OpenSpec.ofChange Rows.fenceBestSpec) own started (by kernel_rfl) Tryz.func3
    (witness_row_at (enc := enc) (C := Tryz.checked) false (laidWorld os) #[.int .u16 0] rfl (by kernel_rfl) (by kernel_rfl) (by kernel_rfl)
      (OpenSpec.preRow_of_cond 8 hx (by kernel_rfl) (fun k hk => by cases hk) (by kernel_rfl) (laid_met_best os))) ?_
  intro W base args ds gs before hval hW _ _ _ hL _ _
  exact best_contract H enc W base args ds gs before hval hW hL

theorem best_said : Rows.FenceBestSaid :=
  OpenClaim.holds_of_cond 3 Tryz.f3 rfl rfl rfl rfl rfl rfl rfl ⟨rfl, rfl, rfl, rfl, rfl⟩ rfl rfl rfl rfl rfl (by kernel_rfl) Tryz.func3 (by kernel_rfl)
    (of_decide_eq_true (by kernel_rfl)) (by unfold Func.isWrapper; first | (rw [if_pos (by decide +kernel)]; kernel_rfl) | (rw [if_neg (by decide +kernel)]; exact ⟨rfl, rfl⟩))
    (fun os started H enc _ F => by rw [OpenClaim.pre_eq_preRow]; exact best_lifted os started H enc F)

/-- No parameter wants a stand-in; the program's own looks are off: what the card asks. -/
theorem best_plain (f : FuncId) (fn : Func) (hf : Tryz.pinned.checked.prog.funcNamed "armarium/armariumlaw39.FenceBest" = some f) (hfn : Tryz.pinned.checked.prog.funcs[f]? = some fn) :
    true = Tryz.pinned.checked.prog.looks [] ∧ ∀ (j : Nat) t, fn.params[j]? = some t → Tryz.pinned.checked.prog.wantsStandIn t = false := by
  obtain rfl : f = 3 := Option.some.inj ((show Tryz.prog.funcNamed "armarium/armariumlaw39.FenceBest" = some 3 by kernel_rfl).symm.trans hf) |>.symm
  obtain rfl : fn = Tryz.f3 := (Option.some.inj (Tryz.func3.symm.trans hfn)).symm
  refine ⟨by kernel_rfl, fun j t ht => ?_⟩
  rw [Tryz.params3] at ht
  have hall : (#[22] : Array TypeId).all (fun t => !Tryz.prog.wantsStandIn t) = true := by kernel_rfl
  have h := Array.all_eq_true'.1 hall t (Array.mem_of_getElem? ht)
  rwa [Bool.not_eq_true'] at h

/-- ████ THE CARD ████ -/
theorem fenceBest_card : Rows.FenceBestCardSaid :=
  Claim7.holds_tied_plain_at .later [] _ _ _ _ best_said (fun _ h => by cases h) (by kernel_rfl) (fun _ h => by cases h) fenceBest_row_tie rfl ⟨rfl, rfl⟩ (by kernel_rfl) rfl best_plain (by kernel_rfl)
end Go.Proofs.YtnnfiicmplkakaaGreatDoor
