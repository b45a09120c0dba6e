/- 'armariumlaw40.RenameOne' answers true for every two names and both answers to each of two questions, and what came in reads as it did; the card that ties the listed tables to the program's text. CONDITION, as the row has it: the tables of packages crc, sha, math/bits and unicode/utf8 and the map of functions of package rename hold what the program's text lays. -/
import Derived.Test.YtdcioacjhpnihaaGreatDoorQ33
import Derived.Test.YtdcioacjhpnihaaGreatDoorQ34
import Derived.Test.YtdcioacjhpnihaaGreatDoorQ35
import Derived.Test.YtdcioacjhpnihaaGreatDoorQ36
import Derived.Test.YtdcioacjhpnihaaGreatDoorQ37
import Derived.Test.YtdcioacjhpnihaaGreatDoorQ38
import Derived.Test.YtdcioacjhpnihaaGreatDoorQ39
import Derived.Test.YtdcioacjhpnihaaGreatDoorQ40
import Derived.Test.YtdcioacjhpnihaaGreatDoorQ41
import Derived.Test.YtdcioacjhpnihaaGreatDoorCards
import Derived.Test.YtdcioacjhpnihaaGreatDoorTie
import Derived.Test.YtdcioacjhpnihaaGreatDoorQ13
import Derived.Test.YtdcioacjhpnihaaGreatDoorQ42
import Derived.Test.YtdcioacjhpnihaaGreatDoorQ43
import Derived.Test.YtdcioacjhpnihaaGreatDoorQ44
import Derived.Test.YtdcioacjhpnihaaGreatDoorQ45
import Derived.Test.YtdcioacjhpnihaaGreatDoorQ46
import Derived.Test.YtdcioacjhpnihaaGreatDoorQ47
import Derived.Test.YtdcioacjhpnihaaGreatDoorQ48
import Derived.Stop.LaidErr
import Derived.WalkKit
import Derived.ProofKit
import Derived.OpenShut
import Derived.Carry
import Derived.ChangeSame
import Derived.Deep.DeepHandedRow
import Derived.Lib.LaidTab
import Derived.Lib.SmallJoins
import Derived.LaidHandle
import Derived.LaidSub
set_option linter.all false
namespace Go.Proofs.YtdcioacjhpnihaaGreatDoor
open Go Go.RowKit
theorem runs_ok : RunsR := by
  intro p hp
  simp only [pairsR, List.mem_cons, List.not_mem_nil, or_false] at hp
  rcases hp with rfl | rfl | rfl | rfl | rfl | rfl | rfl | rfl | rfl | rfl | rfl | rfl | rfl | rfl | rfl | rfl | rfl | rfl | rfl | rfl | rfl | rfl | rfl | rfl
  · exact rn0
  · exact rn1
  · exact rn2
  · exact rn3
  · exact rn4
  · exact rn5
  · exact rn6
  · exact rn7
  · exact rn8
  · exact rn9
  · exact rn10
  · exact rn11
  · exact rn12
  · exact rn13
  · exact rn14
  · exact rn15
  · exact rn16
  · exact rn17
  · exact rn18
  · exact rn19
  · exact rn20
  · exact rn21
  · exact rn22
  · exact rn23
theorem renameOne_any {bD : Nat} {W : World} (h : TabR bD W) (a b : ByteArray) (ov th : Bool) : Calls Tryz.prog 3 #[.string a, .string b, .bool ov, .bool th] W fun e w' => e = .returned (.bool true) ∧ Below W.heap.size W w' :=
  ren_any runs_ok h a b ov th
end Go.Proofs.YtdcioacjhpnihaaGreatDoor
namespace Go.Proofs.YtdcioacjhpnihaaGreatDoor
open Go.ChangeShapes Go.WideShapes Go.ChangeAt Go.RowKit

theorem own : ownKnob Tryz.prog.godebug = none := by kernel_rfl
theorem laidOut : laidOutB Tryz.prog = true := by kernel_rfl

section
variable {H : Type} {enc : TypeId × Value → H} {W W' : World}
/-- the types of the parameters are read whole -/
noncomputable def readable (ts : List TypeId) : Bool := ts.all fun t => Tryz.prog.readableRec t && decide (t < Tryz.prog.types.size)
theorem all_again (hb : Below W.heap.size W W') {sp : Nat → Bool} (ts : List TypeId) : ∀ (vs : List Value) (ds : List (DataW H)) (ps : List MemPlace), readable ts = true → DataW.TrodAll enc Tryz.prog W 0 (fun _ => true) true ts vs ds ps →
    (∀ x ∈ ps, x.block < W.heap.size) → (∀ x ∈ ps, sp x.block = true) → DataW.TrodAll enc Tryz.prog W' 0 sp true ts vs ds ps := by
  induction ts with
  | nil =>
    intro vs ds ps _ h _ _
    obtain ⟨rfl, rfl, rfl⟩ := trodAll_nil h
    exact trodAll_mk0
  | cons t ts ih =>
    intro vs ds ps hr h hl hs
    obtain ⟨v, vs', d, ds', p, q, rfl, rfl, rfl, h1, h2⟩ := trodAll_cons h
    unfold readable at hr ih
    rw [List.all_cons, Bool.and_eq_true, Bool.and_eq_true, decide_eq_true_eq] at hr
    exact trodAll_cons_mk (WideElems.Trod_stays laidOut hr.1.1 hr.1.2 h1 (fun x hx => hb.same (hl x (List.mem_append_left _ hx))) (fun x hx => hs x (List.mem_append_left _ hx)))
      (ih _ _ _ hr.2 h2 (fun x hx => hl x (List.mem_append_right _ hx)) (fun x hx => hs x (List.mem_append_right _ hx)))

set_option maxRecDepth 100000 in
/-- The post of a law that answers true and turns nothing that stood. -/
theorem post_law {f : Func} {s : ChangeSpec} {apart fresh handsOn again : Bool} {args : Array Value} {ds gs : List (DataW H)} {before : List MemPlace} (hvars : s.vars = []) (hr : readable f.params.toList = true) (ht : f.resultTypes = #[4])
    (hres : (s.fn H (ds ++ gs)).results = [.lit (.bool true)]) (hargs : (s.fn H (ds ++ gs)).args = ds) (hvs : (s.fn H (ds ++ gs)).vars = [])
    (hW : DataW.Whole enc Tryz.prog f.params.toList s.vars apart W args.toList ds gs before) (hb : Below W.heap.size W W') :
    s.post enc Tryz.prog f apart fresh handsOn again W args (.bool true) W' := by
  have hlt : ∀ p ∈ before, p.block < W.heap.size := fun p hp => hW.lt p hp
  have hold : ∀ p ∈ before, (fun b => decide (b < W.heap.size)) p.block = true := fun p hp => by simpa using hlt p hp
  have hW' := hW
  obtain ⟨pa, pv, hA, hV, hps, hz, hn⟩ := hW'
  have hpv : pv = [] := by
    rw [hvars] at hV
    exact (trodVars_none hV).2
  subst hpv
  rw [List.append_nil] at hps
  subst hps
  have ha : ∀ sp : Nat → Bool, (∀ p ∈ before, sp p.block = true) → DataW.TrodAll enc Tryz.prog W' 0 sp true f.params.toList args.toList (s.fn H (ds ++ gs)).args before := fun sp hsp => by
    rw [hargs]
    exact all_again hb _ _ _ _ hr hA hlt hsp
  have hv : ∀ sp : Nat → Bool, DataW.TrodVars enc Tryz.prog W' sp s.vars (s.fn H (ds ++ gs)).vars [] := fun sp => by
    rw [hvars, hvs]
    rfl
  have hrs : ∀ (b : Nat) (sp : Nat → Bool) (hd : Bool), DataW.TrodAll enc Tryz.prog W' b sp hd f.resultTypes.toList ((Value.bool true).resultList f.resultTypes.size) (s.fn H (ds ++ gs)).results [] := fun b sp hd => by
    rw [hres, ht]
    exact trodAll_mk1 (shut_bool Tryz.underlying4 _)
  refine ⟨ds, gs, before, [], before, [], hW, hrs _ _ _, ha _ hold, hv _, World.keptBut_mono (fun p hp => ⟨hp, ?_⟩) (hb.frame (· ∈ before)), fun _ => ?_⟩
  · simp [hp]
  · refine ⟨ok_one ht rfl (okWide_bool_mk Tryz.underlying4 _), _, _, ([] ++ before) ++ [], ⟨[] ++ before, [], trodAll_append (ha _ (fun _ _ => rfl)) (hrs _ _ _), hv _, rfl, ?_, ?_⟩, ?_⟩
    · intro b off hp
      have hin : MemPlace.cell b off ∈ before := by simpa using hp
      rw [hb.frozen (hlt _ hin)]
      exact hz b off hin
    · intro ha
      simpa using hn ha
    · intro p hp _
      simpa using hp
end

/-- a block's cells laid anew -/
def fillCells (cs : Array Value) : Obj → Obj
  | .cells _ t frozen => .cells cs t frozen
  | o => o
def rangesZ : List Int := [128, 191, 160, 191, 128, 159, 144, 191, 128, 143] ++ List.replicate 22 0
def natV (k : IntKind) (l : List Nat) : Array Value := (l.map fun (z : Nat) => Value.int k z).toArray
/-- A WORLD FOR THE WITNESS: the settled one, the tables and the map of functions holding what their initialisers lay. -/
noncomputable def laidWorld (os : Os) : World :=
  { World.holding Tryz.prog os ⟨#[], #[], []⟩ with heap := ((((((((World.holding Tryz.prog os ⟨#[], #[], []⟩).heap.modify 4 (fillCells (natV .u32 hvs))).modify 3 (fillCells (natV .u8 dbr))).modify 6 (fillCells (Pinned.utf8FirstZ.map fun z => Value.int .u8 (z : Nat)).toArray)).modify 7 (fillCells (rangesZ.map fun z => Value.int .u8 z).toArray)).modify 2 (fillCells (natV .u32 shaK))).modify 1 (fillCells (natV .u32 shaF))).modify 0 (fillCells #[.map (some (World.holding Tryz.prog os ⟨#[], #[], []⟩).heap.size)])).push dsM0 }
theorem laid_met_nil (os : Os) : laidMetH Tryz.prog Rows.renameOneRow.laid ((laidWorld os).forCall (fun _ _ => 0) ⟨#[], #[.string ByteArray.empty, .string ByteArray.empty, .bool false, .bool false], []⟩).memory :=
  laidMetH_of_parts3 (fuel := 8) (laidMet_of_run' 8 (by kernel_rfl) (by kernel_rfl)) (by kernel_rfl) (by kernel_rfl)
theorem tabs_row {W : World} {name : String} {g : Nat} {k : IntKind} {ns : List Nat} {t : TypeId} (hg : Tryz.prog.globalNamed name = some g) (h : Lib.TabIs Tryz.prog W name k (ns.map fun (n : Nat) => (n : Int))) (hS : W.ShapedOpen Tryz.prog) (hlt : g < Tryz.prog.globals.size)
    (ht : (((begin Tryz.prog (fun _ _ => 0) default).world.heap[g]?).bind Obj.row?).map (·.2) = some t) : W.heap[g]? = some (.cells ⟨ints k ns⟩ t (0, 0)) := by
  cases hr : ((begin Tryz.prog (fun _ _ => 0) default).world.heap[g]?).bind Obj.row? with
  | none => rw [hr] at ht; cases ht
  | some zt =>
    obtain ⟨z, t'⟩ := zt
    rw [hr] at ht
    cases ht
    obtain ⟨cs, h1, _⟩ := hS.1 g z t' hlt hr
    have h2 : W.var? Tryz.prog name = some ((ns.map fun (n : Nat) => (n : Int)).map fun z => Value.int k z).toArray := h
    unfold World.var? at h2
    rw [hg] at h2
    simp only [Option.bind_some, h1, Option.some.injEq] at h2
    rw [h1, h2]
    congr 2
    apply Array.ext'
    show (ns.map fun (n : Nat) => (n : Int)).map (fun z => Value.int k z) = ints k ns
    rw [List.map_map]
    clear h2 h
    induction ns with
    | nil => rfl
    | cons n ns ih => exact congrArg (Value.int k (n : Int) :: ·) ih
theorem tabR_of {W : World} (h0 : laidMetH Tryz.prog Rows.renameOneRow.laid W) (hS : W.ShapedOpen Tryz.prog) : ∃ bD, TabR bD W := by
  have h : laidMet Tryz.prog [("armarium/crc.halves", Rows.laid_armarium_crc_halves), ("math/bits.deBruijn64tab", Rows.laid_math_bits_deBruijn64tab), ("unicode/utf8.acceptRanges", Rows.laid_unicode_utf8_acceptRanges), ("armarium/sha.k", Rows.laid_armarium_sha_k), ("armarium/sha.first", Rows.laid_armarium_sha_first), ("unicode/utf8.first", Rows.laid_unicode_utf8_first)] W := (laidMetH_iff.1 h0).1
  have h1 := laidMet.tail h
  have h2 := laidMet.tail h1
  have h3 := laidMet.tail h2
  have h4 := laidMet.tail h3
  have t1 : Lib.TabIs Tryz.prog W "armarium/crc.halves" .u32 (hvs.map fun (n : Nat) => (n : Int)) := Lib.tabIs_of_head (g := 4) (t := 498) (e := 51) (n := 16) (by kernel_rfl) (by kernel_rfl) Tryz.underlying498 Tryz.underlying51 (by kernel_rfl) (by kernel_rfl) h
  have t2 : Lib.TabIs Tryz.prog W "math/bits.deBruijn64tab" .u8 (dbr.map fun (n : Nat) => (n : Int)) := Lib.tabIs_of_head (g := 3) (t := 520) (e := 5) (n := 64) (by kernel_rfl) (by kernel_rfl) Tryz.underlying520 Tryz.underlying5 (by kernel_rfl) (by kernel_rfl) h1
  have t3 : Lib.TabIs Tryz.prog W "armarium/sha.k" .u32 (shaK.map fun (n : Nat) => (n : Int)) := Lib.tabIs_of_head (g := 2) (t := 52) (e := 51) (n := 64) (by kernel_rfl) (by kernel_rfl) Tryz.underlying52 Tryz.underlying51 (by kernel_rfl) (by kernel_rfl) h3
  have t4 : Lib.TabIs Tryz.prog W "armarium/sha.first" .u32 (shaF.map fun (n : Nat) => (n : Int)) := Lib.tabIs_of_head (g := 1) (t := 421) (e := 51) (n := 8) (by kernel_rfl) (by kernel_rfl) Tryz.underlying421 Tryz.underlying51 (by kernel_rfl) (by kernel_rfl) h4
  have hsz : Tryz.prog.globals.size = 8 := by kernel_rfl
  have r1 := tabs_row (g := 4) (t := 498) (by kernel_rfl) t1 hS (by rw [hsz]; decide) (by kernel_rfl)
  have r2 := tabs_row (g := 3) (t := 520) (by kernel_rfl) t2 hS (by rw [hsz]; decide) (by kernel_rfl)
  have r3 := tabs_row (g := 2) (t := 52) (by kernel_rfl) t3 hS (by rw [hsz]; decide) (by kernel_rfl)
  have r4 := tabs_row (g := 1) (t := 421) (by kernel_rfl) t4 hS (by rw [hsz]; decide) (by kernel_rfl)
  have h6 : ∃ x, (((begin Tryz.prog (fun _ _ => 0) default).world.heap[7]?).bind Obj.row?) = some x := by
    have : (((begin Tryz.prog (fun _ _ => 0) default).world.heap[7]?).bind Obj.row?).isSome = true := by kernel_rfl
    exact Option.isSome_iff_exists.1 this
  obtain ⟨⟨z6, t6⟩, h6⟩ := h6
  obtain ⟨cs6, h6, _⟩ := hS.1 7 z6 t6 (by rw [hsz]; decide) h6
  obtain ⟨bD, q1, q2⟩ := does_of (laidMetH.funcs h0 (.tail _ (.tail _ (.tail _ (.tail _ (.tail _ (.head _))))))) hS
  refine ⟨bD, (Array.getElem?_eq_some_iff.1 h6).1, fun k o hm => ?_, q1, q2⟩
  unfold gL at hm
  simp only [List.mem_cons, List.not_mem_nil, or_false, Prod.mk.injEq] at hm
  rcases hm with ⟨rfl, rfl⟩ | ⟨rfl, rfl⟩ | ⟨rfl, rfl⟩ | ⟨rfl, rfl⟩
  all_goals first | exact r1 | exact r2 | exact r3 | exact r4
set_option maxRecDepth 100000 in
theorem nil_contract (H : Type) (enc : TypeId × Value → H) (W : World) (base : Nat) (args : Array Value) (ds gs : List (DataW H)) (before : List MemPlace)
    (hval : ∀ (j : Nat) t v, Tryz.f3.params[j]? = some t → args[j]? = some v → Value.okWide Tryz.prog W .any base t v)
    (hW : DataW.Whole enc Tryz.prog Tryz.f3.params.toList Rows.renameOneSpec.vars false W args.toList ds gs before) (hL : laidMetH Tryz.prog Rows.renameOneRow.laid W) (hS : W.ShapedOpen Tryz.prog) :
    Calls Tryz.prog 3 args W fun e W' => ∃ v, e = .returned v ∧ Rows.renameOneSpec.post enc Tryz.prog Tryz.f3 false true false false W args v W' := by
  have hW' := hW
  obtain ⟨p, q, hA0, hV, rfl, hfz, hnd⟩ := hW
  have hA : DataW.TrodAll enc Tryz.prog W 0 (fun _ => true) true Tryz.f3.params.toList args.toList ds p := hA0
  rw [Tryz.params3] at hA hval
  obtain ⟨v0, v1, v2, v3, d0, d1, d2, d3, p0, p1, p2, p3, rfl, rfl, rfl, h0, h1, h2, h3⟩ := trodAll_four hA
  obtain ⟨rfl, rfl⟩ := trodVars_none hV
  obtain ⟨fr, rfl, _, _, _⟩ := ChangeMaps.open_string Tryz.underlying9 (hval 0 9 v0 rfl rfl) h0
  obtain ⟨tn, rfl, _, _, _⟩ := ChangeMaps.open_string Tryz.underlying9 (hval 1 9 v1 rfl rfl) h1
  obtain ⟨ov, rfl, _, _⟩ := RowKit.open_bool Tryz.underlying4 (hval 2 4 v2 rfl rfl) h2
  obtain ⟨th, rfl, _, _⟩ := RowKit.open_bool Tryz.underlying4 (hval 3 4 v3 rfl rfl) h3
  obtain ⟨bD, hT⟩ := tabR_of hL hS
  refine (renameOne_any hT fr tn ov th).mono fun e W' he => ?_
  obtain ⟨rfl, hbl⟩ := he
  exact ⟨_, rfl, post_law rfl (by kernel_rfl) (by kernel_rfl) rfl rfl rfl hW' hbl⟩
theorem nil_reads (os : Os) {H : Type} (enc : TypeId × Value → H) : ∃ x : List (DataW H) × List (DataW H) × List MemPlace, DataW.whole enc Tryz.prog ((laidWorld os).forCall (fun _ _ => 0) ⟨#[], #[.string ByteArray.empty, .string ByteArray.empty, .bool false, .bool false], []⟩).memory Tryz.f3.params.toList Rows.renameOneSpec.vars false #[Value.string ByteArray.empty, Value.string ByteArray.empty, Value.bool false, Value.bool false].toList 8 = some x :=
  ⟨([.lit (.string []), .lit (.string []), .lit (.bool false), .lit (.bool false)], [], []), by kernel_rfl⟩

set_option maxRecDepth 100000 in
theorem nil_lifted (os : Os) (started : os.Started) (H : Type) (enc : TypeId × Value → H) (F : Stop.Interp) :
    ReturnsInHanded {} Tryz.checked os 3 .any ((OpenSpec.ofChange Rows.renameOneSpec).preRow enc Tryz.prog Tryz.f3 Rows.renameOneRow.domain false Rows.renameOneRow.laid) (((OpenSpec.ofChange Rows.renameOneSpec).at F).post enc Tryz.prog Tryz.f3 false true false false) := by
  obtain ⟨x, hx⟩ := nil_reads os enc
  refine returnsInHanded_of_row (C := Tryz.checked) (s := OpenSpec.ofChange Rows.renameOneSpec) own started (by kernel_rfl) Tryz.func3
    (witness_row_at (enc := enc) (C := Tryz.checked) false (laidWorld os) #[.string ByteArray.empty, .string ByteArray.empty, .bool false, .bool false] rfl (by kernel_rfl) (by kernel_rfl) (by kernel_rfl)
      (OpenSpec.preRow_of_cond 8 hx (by kernel_rfl) (fun k hk => by cases hk) (by kernel_rfl) (laid_met_nil os))) ?_
  intro W base args ds gs before hval hW _ _ _ hL hS _
  exact nil_contract H enc W base args ds gs before hval hW hL hS

theorem andT {a b : Bool} (ha : a = true) (hb : b = true) : (a && b) = true := by
  rw [ha, hb]
  rfl
theorem closed_ok : joinedFacts Tryz.prog 3 Tryz.f3 (OpenSpec.ofChange Rows.renameOneSpec).bare Rows.renameOneRow = true := by
  unfold joinedFacts
  exact andT (andT (andT (andT (andT (andT (andT (andT (andT (andT (andT (andT (andT (andT (andT (andT (andT (andT (andT (andT (andT (andT (andT (andT (andT (andT (andT (andT (andT (andT (andT jf0 jf1) jf2) jf3) jf4) jf5) jf6) jf7) jf8) jf9) jf10) jf11) jf12) jf13) jf14) jf15) jf16) jf17) jf18) jf19) jf20) jf21) jf22) jf23) jf24) jf25) jf26) jf27) (by kernel_rfl)) jf29) jf30) jf31
theorem nil_said : Rows.RenameOneSaid :=
  OpenClaim.holds_of_cond 3 Tryz.f3 rfl rfl rfl rfl rfl rfl rfl ⟨rfl, rfl, rfl, rfl, rfl⟩ rfl rfl rfl rfl rfl jfn Tryz.func3 closed_ok
    (of_decide_eq_true (by kernel_rfl)) (by unfold Func.isWrapper; first | (rw [if_pos (by decide +kernel)]; kernel_rfl) | (rw [if_neg (by decide +kernel)]; exact ⟨rfl, rfl⟩))
    (fun os started H enc _ F => by rw [OpenClaim.pre_eq_preRow]; exact nil_lifted os started H enc F)

/-- No parameter wants a stand-in; the program's own looks are off: what the card asks. -/
theorem nil_plain (f : FuncId) (fn : Func) (hf : Tryz.pinned.checked.prog.funcNamed "armarium/armariumlaw40.RenameOne" = some f) (hfn : Tryz.pinned.checked.prog.funcs[f]? = some fn) :
    true = Tryz.pinned.checked.prog.looks [] ∧ ∀ (j : Nat) t, fn.params[j]? = some t → Tryz.pinned.checked.prog.wantsStandIn t = false := by
  obtain rfl : f = 3 := Option.some.inj (jfn.symm.trans hf) |>.symm
  obtain rfl : fn = Tryz.f3 := (Option.some.inj (Tryz.func3.symm.trans hfn)).symm
  refine ⟨jlooks, fun j t ht => ?_⟩
  rw [Tryz.params3] at ht
  have hall : (#[9, 9, 4, 4] : Array TypeId).all (fun t => !Tryz.prog.wantsStandIn t) = true := by kernel_rfl
  have h := Array.all_eq_true'.1 hall t (Array.mem_of_getElem? ht)
  rwa [Bool.not_eq_true'] at h

/-- ████ THE CARD ████ -/
theorem renameOne_card : Rows.RenameOneCardSaid :=
  Claim7.holds_tied_plain_at .later [] _ _ _ _ nil_said (fun _ h => by cases h) jwf (fun _ h => by cases h) renameOne_row_tie rfl ⟨rfl, rfl⟩ jmain rfl nil_plain jgoes
end Go.Proofs.YtdcioacjhpnihaaGreatDoor
