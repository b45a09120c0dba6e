/- Walk of the law's Great: are the acts too many or too long? The acts of a statement, opened: as they lie in memory when the call begins. Walk of the law's Does: one act on both books. Walk of the law KeepBooks. -/
import Derived.Test.YtokibbgahefkbaaGreatDoorV4
import Derived.Deep.Slices
import Derived.ChangeArms
import Derived.Lib.SmallJoins
import Derived.ProofKit
import Derived.Test.YtokibbgahefkbaaGreatDoorV3
import Derived.Test.YtokibbgahefkbaaGreatDoorV5
set_option linter.all false
namespace Go.Proofs.YtokibbgahefkbaaGreatDoor.Fe
open Go.RowKit Go.Shelf

/-- an act: what to do, a key, a value -/
abbrev ActT := Int × ByteArray × ByteArray
def av (acts : List ActT) : List Value := acts.flatMap fun a => [.int .u8 a.1, .string a.2.1, .string a.2.2]
theorem av_len (acts : List ActT) : (av acts).length = acts.length * 3 := by
  induction acts with
  | nil => rfl
  | cons a acts ih =>
    show ([Value.int .u8 a.1, .string a.2.1, .string a.2.2] ++ av acts).length = _
    rw [List.length_append, ih, List.length_cons]
    simp only [List.length_cons, List.length_nil]
    omega
theorem av_get (acts : List ActT) (i : Nat) (h : i < acts.length) : (av acts)[i * 3]? = some (.int .u8 acts[i].1) ∧ (av acts)[i * 3 + 1]? = some (.string acts[i].2.1) ∧ (av acts)[i * 3 + 2]? = some (.string acts[i].2.2) := by
  induction acts generalizing i with
  | nil => simp at h
  | cons a acts ih =>
    cases i with
    | zero => exact ⟨rfl, rfl, rfl⟩
    | succ i =>
      obtain ⟨h1, h2, h3⟩ := ih i (by simpa using h)
      have e : ∀ k, (av (a :: acts))[(i + 1) * 3 + k]? = (av acts)[i * 3 + k]? := fun k => by
        show ([Value.int .u8 a.1, .string a.2.1, .string a.2.2] ++ av acts)[(i + 1) * 3 + k]? = _
        rw [List.getElem?_append_right (by simp only [List.length_cons, List.length_nil]; omega)]
        congr 1
        simp only [List.length_cons, List.length_nil]
        omega
      exact ⟨(e 0).trans h1, (e 1).trans h2, (e 2).trans h3⟩
theorem acts_at {w : World} {B : Nat} {A : Option Addr} {acts : List ActT} (h : Mem w B A (av acts)) (hn : 0 < acts.length) : ∃ b off, A = some ⟨b, off, none⟩ ∧ b < B ∧
    ∀ i (hi : i < acts.length), w.cell? ⟨b, off + i * 3, none⟩ = some (.int .u8 acts[i].1) ∧ w.cell? ⟨b, off + i * 3 + 1, none⟩ = some (.string acts[i].2.1) ∧ w.cell? ⟨b, off + i * 3 + 2, none⟩ = some (.string acts[i].2.2) := by
  obtain ⟨b, off, e, hb, hc⟩ := h.get (by rw [av_len]; omega)
  refine ⟨b, off, e, hb, fun i hi => ?_⟩
  obtain ⟨h1, h2, h3⟩ := av_get acts i hi
  have hg : ∀ k v, (av acts)[i * 3 + k]? = some v → w.cell? ⟨b, off + (i * 3 + k), none⟩ = some v := fun k v hv => by
    obtain ⟨hlt, he⟩ := List.getElem?_eq_some_iff.1 hv
    rw [hc _ hlt, he]
  exact ⟨hg 0 _ h1, hg 1 _ h2, hg 2 _ h3⟩
/-- not too great -/
def Small (acts : List ActT) : Prop := acts.length ≤ 60 ∧ ∀ a ∈ acts, a.2.1.size ≤ 300 ∧ a.2.2.size ≤ 300
def GreatQ (acts : List ActT) (w : World) (e : Ending) (w' : World) : Prop := w = w' ∧ ∃ b, e = .returned (.bool b) ∧ (b = false → Small acts)
def GrI (acts : List ActT) (w : World) (j : Nat) (wr : World) : Prop := w = wr ∧ ∀ a ∈ acts.take j, a.2.1.size ≤ 300 ∧ a.2.2.size ≤ 300
set_option maxHeartbeats 2000000 in
set_option maxRecDepth 20000 in
theorem great_any (A : Option Addr) (c : Nat) (acts : List ActT) (w : World) (hm : Mem w w.heap.size A (av acts)) :
    Calls Tryz.prog 10 #[.slice A acts.length c] w (GreatQ acts w) := by
  have HM := hide hm
  clear hm
  by_cases hbig : 60 < acts.length
  · have hI : (60 : Int) < (acts.length : Int) := by omega
    clear hbig
    go_enter Tryz.func10, Tryz.ntmps10
    go_wp2_with fail
    go_ret
    exact ⟨rfl, true, rfl, fun h => by cases h⟩
  · have hI : ¬ (60 : Int) < (acts.length : Int) := by omega
    have HB := hide (show acts.length ≤ 60 by omega)
    clear hbig
    go_enter Tryz.func10, Tryz.ntmps10
    go_upto_region 4 with fail
    go_loopw [3] (fun x wr => ∃ j : Nat, j ≤ acts.length ∧ x = .int .i64 j ∧ GrI acts w j wr) (fun x _ => acts.length - (Go.RowKit.intOf x).toNat)
    case atStart => exact ⟨0, Nat.zero_le _, rfl, ⟨rfl, fun a h => by simp at h⟩⟩
    case round =>
      obtain ⟨j, hj, rfl, ⟨rfl, hall⟩⟩ := hrel
      have HAll := hide hall
      clear hall
      by_cases hlt : j < acts.length
      · obtain ⟨g, off, rfl, hg, hc⟩ := acts_at HM.out (by omega)
        obtain ⟨_, f1, f2⟩ := hc j hlt
        have HTk := hide (List.take_succ_eq_append_getElem hlt)
        generalize acts[j] = aj at *
        obtain ⟨dj, kj, vj⟩ := aj
        simp only at f1 f2
        clear hc
        by_cases h1 : 300 < kj.size
        · have h1I : (300 : Int) < (kj.size : Int) := by omega
          clear h1
          go_wp2_with fail
          go_ret
          exact ⟨rfl, true, rfl, fun h => by cases h⟩
        · have h1I : ¬ (300 : Int) < (kj.size : Int) := by omega
          by_cases h2 : 300 < vj.size
          · have h2I : (300 : Int) < (vj.size : Int) := by omega
            clear h1 h2
            go_wp2_with fail
            go_ret
            exact ⟨rfl, true, rfl, fun h => by cases h⟩
          · have h2I : ¬ (300 : Int) < (vj.size : Int) := by omega
            have HN := hide (show ∀ a ∈ acts.take (j + 1), a.2.1.size ≤ 300 ∧ a.2.2.size ≤ 300 from fun a ha => by
              rw [HTk.out, List.mem_append, List.mem_singleton] at ha
              rcases ha with ha | rfl
              · exact HAll.out a ha
              · exact ⟨Nat.le_of_not_lt h1, Nat.le_of_not_lt h2⟩)
            have HNum := hide (show Value.int IntKind.i64 ((j : Int) + 1) = .int .i64 ((j + 1 : Nat) : Int) from rfl)
            have HMs := hide (show acts.length - (Go.RowKit.intOf (Value.int IntKind.i64 ((j : Int) + 1))).toNat < acts.length - (Go.RowKit.intOf (Value.int IntKind.i64 (j : Int))).toNat by simp only [Go.RowKit.intOf]; omega)
            clear h1 h2 HTk
            go_wp2_with fail
            exact ⟨⟨j + 1, by omega, HNum.out, ⟨rfl, HN.out⟩⟩, HMs.out⟩
      · obtain rfl : j = acts.length := by omega
        have HS := hide (show Small acts from ⟨HB.out, fun a ha => HAll.out a (by rw [List.take_length]; exact ha)⟩)
        clear HAll
        go_wp2_with fail
        go_ret
        exact ⟨rfl, false, rfl, fun _ => HS.out⟩
end Go.Proofs.YtokibbgahefkbaaGreatDoor.Fe
namespace Go.Proofs.YtokibbgahefkbaaGreatDoor.Fe
open Go.ChangeShapes Go.WideShapes Go.RowKit Go.Deep

theorem mem_of {W : World} {a : Addr} {xs : List Value} (hc : ∀ i (h : i < xs.length), W.cell? (a.add i) = some xs[i]) : Mem W W.heap.size (some a) xs := by
  intro h0
  have h := hc 0 h0
  obtain ⟨b, off, spot⟩ := a
  cases spot with
  | some s =>
    exfalso
    unfold World.cell? Addr.add at h
    simp only [if_true] at h
    split at h <;> simp at h
  | none =>
    refine ⟨b, off, rfl, ?_, fun i hi => ?_⟩
    · by_cases hb : b < W.heap.size
      · exact hb
      · exfalso
        unfold World.cell? Addr.add at h
        simp [Array.getElem?_eq_none (Nat.le_of_not_lt hb)] at h
    · have h2 := hc i hi
      unfold Addr.add at h2
      split at h2
      · rename_i e; subst e; exact h2
      · exact h2
section
variable {H : Type} {enc : TypeId × Value → H} {W : World}
set_option maxRecDepth 100000 in
theorem open_acts {n : Nat} {v : Value} {x : DataW H × List MemPlace} (h : DataW.trod enc Tryz.prog W 0 (fun _ => true) true n 35 [v] = some x) :
    ∃ (A : Option Addr) (acts : List ActT) (cap : Nat), v = .slice A acts.length cap ∧ Mem W W.heap.size A (av acts) := by
  rcases open_slice Tryz.underlying35 h with ⟨hcs, _⟩ | ⟨a, len, cap, m, n', D, Pl, hcs, _, hl, _, hm, _, hx⟩
  · injection hcs with hcs
    exact ⟨none, [], 0, hcs, Mem.nil⟩
  · injection hcs with hcs
    simp only [if_true] at hm
    have each : ∀ i, i < len → ∃ q : ActT, W.cell? (a.add (i * 3)) = some (.int .u8 q.1) ∧ W.cell? (a.add (i * 3 + 1)) = some (.string q.2.1) ∧ W.cell? (a.add (i * 3 + 2)) = some (.string q.2.2) := by
      intro i hi
      obtain ⟨cs', h1, h2⟩ := hx i (by omega)
      rw [show Tryz.prog.cellsOf 40 = 3 by kernel_rfl] at h1
      obtain ⟨_, hlen, hcell⟩ := World.cells?_some h1
      obtain ⟨xs, k, hk, hxy, _, hxl, hf⟩ := DataW.trod_struct Tryz.underlying40 h2
      match xs, hxl, cs', hlen with
      | [y0, y1, y2], _, [v0, v1, v2], _ =>
        have g0 : DataW.trod enc Tryz.prog W 0 (fun _ => true) true k 5 (([v0, v1, v2].drop 0).take (Tryz.prog.cellsOf 5)) = some y0 := hf 0 _ rfl
        have g1 : DataW.trod enc Tryz.prog W 0 (fun _ => true) true k 9 (([v0, v1, v2].drop 1).take (Tryz.prog.cellsOf 9)) = some y1 := hf 1 _ rfl
        have g2 : DataW.trod enc Tryz.prog W 0 (fun _ => true) true k 9 (([v0, v1, v2].drop 2).take (Tryz.prog.cellsOf 9)) = some y2 := hf 2 _ rfl
        rw [show Tryz.prog.cellsOf 5 = 1 by kernel_rfl] at g0
        rw [show Tryz.prog.cellsOf 9 = 1 by kernel_rfl] at g1 g2
        have e0 := hcell 0 (by omega)
        have e1 := hcell 1 (by omega)
        have e2 := hcell 2 (by omega)
        rw [add_add] at e0 e1 e2
        obtain ⟨z0, k0, _, _⟩ := DataW.trod_int Tryz.underlying5 (show DataW.trod enc Tryz.prog W 0 (fun _ => true) true k 5 [v0] = _ from g0)
        obtain ⟨s1, k1, _⟩ := DataW.trod_string Tryz.underlying9 (show DataW.trod enc Tryz.prog W 0 (fun _ => true) true k 9 [v1] = _ from g1)
        obtain ⟨s2, k2, _⟩ := DataW.trod_string Tryz.underlying9 (show DataW.trod enc Tryz.prog W 0 (fun _ => true) true k 9 [v2] = _ from g2)
        injection k0 with k0
        injection k1 with k1
        injection k2 with k2
        subst k0 k1 k2
        exact ⟨(z0, s1, s2), by simpa using e0, by simpa using e1, by simpa using e2⟩
    obtain ⟨q, hq⟩ := choose_lt each
    have hlen : ((List.range len).map q).length = len := by simp
    refine ⟨some a, (List.range len).map q, cap, by rw [hlen]; exact hcs, mem_of fun i hi => ?_⟩
    rw [av_len, hlen] at hi
    obtain ⟨g0, g1, g2⟩ := av_get ((List.range len).map q) (i / 3) (by rw [hlen]; omega)
    obtain ⟨c0, c1, c2⟩ := hq (i / 3) (by omega)
    have hgi : ((List.range len).map q)[i / 3]'(by rw [hlen]; omega) = q (i / 3) := by simp
    rw [hgi] at g0 g1 g2
    have fin : ∀ u, (av ((List.range len).map q))[i]? = some u → W.cell? (a.add i) = some u → W.cell? (a.add i) = some ((av ((List.range len).map q))[i]'(by rw [av_len, hlen]; exact hi)) := fun u h1 h2 => by
      rw [List.getElem?_eq_getElem (by rw [av_len, hlen]; exact hi)] at h1
      rw [h2, ← h1]
    have h3 : i % 3 = 0 ∨ i % 3 = 1 ∨ i % 3 = 2 := by omega
    rcases h3 with hp | hp | hp
    · rw [show i / 3 * 3 = i by omega] at c0 g0
      exact fin _ g0 c0
    · rw [show i / 3 * 3 + 1 = i by omega] at c1 g1
      exact fin _ g1 c1
    · rw [show i / 3 * 3 + 2 = i by omega] at c2 g2
      exact fin _ g2 c2
set_option maxRecDepth 100000 in
theorem open_actsArg {n0 : Nat} {v : Value} {d : DataW H} {ps : List MemPlace} (hv : Value.okWide Tryz.prog W .any n0 35 v) (h : DataW.Trod enc Tryz.prog W 0 (fun _ => true) true 35 v d ps) :
    ∃ (A : Option Addr) (acts : List ActT) (cap : Nat), v = .slice A acts.length cap ∧ Mem W W.heap.size A (av acts) := by
  obtain ⟨a, len, cap, rfl⟩ := okWide_slice Tryz.underlying35 hv
  obtain ⟨fuel, hf⟩ := h
  exact open_acts hf
end
end Go.Proofs.YtokibbgahefkbaaGreatDoor.Fe
namespace Go.Proofs.YtokibbgahefkbaaGreatDoor.Fe
open Go.RowKit Go.Shelf

theorem results_cell_tmp2 {fn : Func} {p u q : Tmp} {ty : TypeId} (h : fn.results = #[.cell p ty, .tmp u, .tmp q]) (tmps : Array Value) (P : Program) (w : World) :
    (results fn tmps).run P w = ((asAddr (tmps.getD p undef)).run P w).andThen fun a w₁ => ((loadVar ty a).run P w₁).andThen fun v w₂ => .ok (.tuple #[v, tmps.getD u undef, tmps.getD q undef]) w₂ := by
  simp only [results, h]
  simp [Sem.run_bind, Result.andThen]
theorem ret_does {fn : Func} {p u q : Tmp} (h : fn.results = #[.cell p 25, .tmp u, .tmp q]) (tmps : Array Value) (w : World) (g : Nat) (A : Option Addr) (n c : Nat) (hp : tmps.getD p undef = .pointer (some ⟨g, 0, none⟩)) (hw : Whole w g 25 [.slice A n c]) :
    (results fn tmps).run Tryz.prog w = .ok (.tuple #[bkV A n c, tmps.getD u undef, tmps.getD q undef]) w := by
  rw [results_cell_tmp2 h, hp]
  simp [asAddr, run_loadVar_mid w g 0 25 [.slice A n c] _ hw.rangeK Tryz.underlying25 rfl bookInfo, Result.andThen, bkV]
/-- an act, done -/
def doesL (es : List Ent) (a : ActT) : List Ent := if a.1 = 0 then delE es a.2.1 else withL es a.2.1 a.2.2
theorem doesL_bk {es : List Ent} {a : ActT} (h : Bk es) : Bk (doesL es a) := by
  unfold doesL
  split
  · exact h.del _
  · exact withL_bk h
def DoesQ (es : List Ent) (a : ActT) (w : World) (e : Ending) (w' : World) : Prop :=
  ∃ A c A2 c2, e = .returned (.tuple #[bkV A (doesL es a).length c, .slice A2 (doesL es a).length c2, .bool true]) ∧ Mem w' w'.heap.size A (pv (doesL es a)) ∧ Mem w' w'.heap.size A2 (pv (doesL es a)) ∧ Below w.heap.size w w'
/-- the three boxes that Does begins with -/
theorem does_new (w : World) (A : Option Addr) (n c : Nat) (d : Int) (k v : ByteArray) : ∃ w2, w2 = ((w.alloc (.cells #[.slice A n c] 25)).alloc (.cells #[.int .u8 d, .string k, .string v] 40)).alloc (.cells #[.slice none 0 0] 25) ∧ Below w.heap.size w w2 ∧
    Whole w2 w.heap.size 25 [.slice A n c] ∧ Whole w2 (w.heap.size + 1) 40 [.int .u8 d, .string k, .string v] ∧ Whole w2 (w.heap.size + 1 + 1) 25 [.slice none 0 0] := by
  have z1 : (w.alloc (.cells #[.slice A n c] 25)).heap.size = w.heap.size + 1 := by simp
  have z2 : ((w.alloc (.cells #[.slice A n c] 25)).alloc (.cells #[.int .u8 d, .string k, .string v] 40)).heap.size = w.heap.size + 1 + 1 := by simp
  have h1 := Whole.new w [.slice A n c] 25
  have h2 := Whole.new (w.alloc (.cells #[.slice A n c] 25)) [.int .u8 d, .string k, .string v] 40
  have h3 := Whole.new ((w.alloc (.cells #[.slice A n c] 25)).alloc (.cells #[.int .u8 d, .string k, .string v] 40)) [.slice none 0 0] 25
  have b1 : Below w.heap.size w (w.alloc (.cells #[.slice A n c] 25)) := (Below.refl _ _).alloc (Nat.le_refl _) _
  have b2 : Below (w.heap.size + 1) (w.alloc (.cells #[.slice A n c] 25)) ((w.alloc (.cells #[.slice A n c] 25)).alloc (.cells #[.int .u8 d, .string k, .string v] 40)) := (Below.refl _ _).alloc (by omega) _
  have b3 : Below (w.heap.size + 1 + 1) ((w.alloc (.cells #[.slice A n c] 25)).alloc (.cells #[.int .u8 d, .string k, .string v] 40)) (((w.alloc (.cells #[.slice A n c] 25)).alloc (.cells #[.int .u8 d, .string k, .string v] 40)).alloc (.cells #[.slice none 0 0] 25)) := (Below.refl _ _).alloc (by omega) _
  rw [z1] at h2
  rw [z2] at h3
  refine ⟨_, rfl, b1.trans ((b2.mono (by omega)).trans (b3.mono (by omega))), ?_, ?_, h3⟩
  · exact (Whole.below h1 b2 (by omega)).below b3 (by omega)
  · exact Whole.below h2 b3 (by omega)
/-- what stays while Does calls -/
def DS (w w' : World) (A : Option Addr) (n c : Nat) (d : Int) (k v : ByteArray) : Prop := Below w.heap.size w w' ∧ Whole w' w.heap.size 25 [.slice A n c] ∧ Whole w' (w.heap.size + 1) 40 [.int .u8 d, .string k, .string v] ∧ ∃ A' n' c', Whole w' (w.heap.size + 1 + 1) 25 [.slice A' n' c']
theorem does_s {w w1 w2 : World} {A : Option Addr} {n c : Nat} {d : Int} {k v : ByteArray} (h : DS w w1 A n c d k v) (hb : Below w1.heap.size w1 w2) : DS w w2 A n c d k v :=
  let ⟨A', n', c', hw⟩ := h.2.2.2
  ⟨h.1.trans (hb.mono h.1.size), h.2.1.below hb h.2.1.lt, h.2.2.1.below hb h.2.2.1.lt, A', n', c', hw.below hb hw.lt⟩
set_option maxHeartbeats 8000000 in
set_option maxRecDepth 20000 in
theorem does_any (A A2 : Option Addr) (c c2 : Nat) (es : List Ent) (a : ActT) (w : World) (hm : Mem w w.heap.size A (pv es)) (hm2 : Mem w w.heap.size A2 (pv es)) (hb : Bk es) :
    Calls Tryz.prog 11 #[bkV A es.length c, .slice A2 es.length c2, .agg #[.int .u8 a.1, .string a.2.1, .string a.2.2]] w (DoesQ es a w) := by
  obtain ⟨d, kj, vj⟩ := a
  obtain ⟨w2, hw2, hb2, hx1, hx2, hx3⟩ := does_new w A es.length c d kj vj
  have HB := hide hb2
  have HX1 := hide hx1
  have HX2 := hide hx2
  have HX3 := hide hx3
  have HM := hide ((hm.below hb2).mono hb2.size)
  have HM2 := hide ((hm2.below hb2).mono hb2.size)
  have HM0 := hide hm
  have HM1 := hide hm2
  have HBk := hide hb
  have c0 := hx1.cell 0
  have d0 := hx2.cell 0
  have d1 := hx2.cell 1
  have d2 := hx2.cell 2
  have r0 := hx3.cell 0
  have rf := hx3.frozen 0
  simp only [List.getElem?_cons_zero, List.getElem?_cons_succ] at c0 d0 d1 d2 r0
  have l1 := hx1.lt
  have l2 := hx2.lt
  have l3 := hx3.lt
  clear hb2 hx1 hx2 hx3 hm hm2 hb
  unfold bkV
  go_enter Tryz.func11, Tryz.ntmps11
  go_upto_region 1 with fail
  rw [← hw2]
  clear hw2
  by_cases hd : d = 0
  · subst hd
    have HQ := hide (show doesL es (0, kj, vj) = delE es kj from if_pos rfl)
    go_upto_region 2 with fail
    clear d0
    have HDS := hide (show DS w w2 A es.length c 0 kj vj from ⟨HB.out, HX1.out, HX2.out, none, 0, 0, HX3.out⟩)
    clear HB HX1 HX2 HX3 HM HM2
    refine wp_region_held_drew (S := (fun w' => DS w w' A es.length c 0 kj vj)) (by kernel_rfl) (does_s HDS.out (Below.refl _ _).drew) (fun hHeld => ?_)
    generalize w2.drew = wd at *
    refine wpAnyH_take (i := 0) (v := ?vaq1) rfl (by kernel_rfl) (by kernel_rfl) (by kernel_rfl) (fun _ _ _ h => h) (Or.inl ⟨by rfl, ?haq1⟩) (by assumption) ?raq1
    case haq1 => (intro wq hSw; have e0 := hSw.2.1.cell 0; simp only [List.getElem?_cons_zero] at e0; go_simp; (try with_reducible rfl))
    try simp only [Act.put, List.getElem_toArray, List.getElem_cons_zero, List.setIfInBounds_toArray, List.set_cons_zero, List.set_cons_succ]
    refine wpAnyH_take (i := 1) (v := ?vaq2) rfl (by kernel_rfl) (by kernel_rfl) (by kernel_rfl) (fun _ _ _ h => h) (Or.inl ⟨by rfl, ?haq2⟩) (by assumption) ?raq2
    case haq2 => (intro wq hSw; go_simp; (try with_reducible rfl))
    try simp only [Act.put, List.getElem_toArray, List.getElem_cons_zero, List.getElem_cons_succ, List.setIfInBounds_toArray, List.set_cons_zero, List.set_cons_succ]
    refine wpAnyH_take (i := 2) (v := ?vaq3) rfl (by kernel_rfl) (by kernel_rfl) (by kernel_rfl) (fun _ _ _ h => h) (Or.inl ⟨by rfl, ?haq3⟩) (by assumption) ?raq3
    case haq3 => (intro wq hSw; have e1 := hSw.2.2.1.cell 1; simp only [List.getElem?_cons_zero, List.getElem?_cons_succ] at e1; go_simp; (try with_reducible rfl))
    try simp only [Act.put, List.getElem_toArray, List.getElem_cons_zero, List.getElem_cons_succ, List.setIfInBounds_toArray, List.set_cons_zero, List.set_cons_succ]
    refine wpAnyH_take (i := 4) (v := ?vaq4) rfl (by kernel_rfl) (by kernel_rfl) (by kernel_rfl) (fun _ _ _ h => h) (Or.inl ⟨by rfl, ?haq4⟩) (by assumption) ?raq4
    case haq4 => (intro wq hSw; go_simp; (try with_reducible rfl))
    try simp only [Act.put, List.getElem_toArray, List.getElem_cons_zero, List.getElem_cons_succ, List.setIfInBounds_toArray, List.set_cons_zero, List.set_cons_succ]
    refine wpAnyH_take (i := 5) (v := ?vaq5) rfl (by kernel_rfl) (by kernel_rfl) (by kernel_rfl) (fun _ _ _ h => h) (Or.inl ⟨by rfl, ?haq5⟩) (by assumption) ?raq5
    case haq5 => (intro wq hSw; go_simp; (try with_reducible rfl))
    try simp only [Act.put, List.getElem_toArray, List.getElem_cons_zero, List.getElem_cons_succ, List.setIfInBounds_toArray, List.set_cons_zero, List.set_cons_succ]
    refine wpAnyH_take (i := 6) (v := ?vaq6) rfl (by kernel_rfl) (by kernel_rfl) (by kernel_rfl) (fun _ _ _ h => h) (Or.inl ⟨by rfl, ?haq6⟩) (by assumption) ?raq6
    case haq6 => (intro wq hSw; have e1 := hSw.2.2.1.cell 1; simp only [List.getElem?_cons_zero, List.getElem?_cons_succ] at e1; go_simp; (try with_reducible rfl))
    try simp only [Act.put, List.getElem_toArray, List.getElem_cons_zero, List.getElem_cons_succ, List.setIfInBounds_toArray, List.set_cons_zero, List.set_cons_succ]
    refine wpAnyH_ready (rs := [3]) (by kernel_rfl) (by simp) ?_
    refine AllReadyH.cons (o := _) rfl (fun K hK => ?_) ?_
    · skip
      go_simp
      have hcl := without_any A c es kj wd ((HM0.out.below hHeld.1).mono hHeld.1.size) HBk.out
      unfold bkV at hcl
      refine hcl.mono ?_
      rintro e wn1 ⟨A9, c9, rfl, hm9, hb9⟩
      unfold bkV
      have HS1 := hide (does_s hHeld hb9)
      have HM9 := hide hm9
      clear hm9 hb9 hcl
      refine hK.out _ _ (HS1.out) (fun hHeld => ?_)
      clear hK K 
      try simp only [Act.put, List.getElem_toArray, List.getElem_cons_zero, List.getElem_cons_succ, List.setIfInBounds_toArray, List.set_cons_zero, List.set_cons_succ]
      refine wpAnyH_ready (rs := [7]) (by kernel_rfl) (by simp) ?_
      refine AllReadyH.cons (o := _) rfl (fun K hK => ?_) ?_
      · skip
        go_simp
        refine (rwithout_any A2 c2 es kj wn1 ((HM1.out.below hHeld.1).mono hHeld.1.size) (Nat.le_trans HBk.out.len (by decide))).mono ?_
        rintro e wn2 ⟨v8, rfl, ho8, hb8⟩
        obtain ⟨A8, c8, rfl⟩ := owns_slice ho8
        have HM8 := hide (owns_mem ho8)
        have HM9' := hide ((HM9.out.below hb8).mono hb8.size)
        have HS2 := hide (does_s hHeld hb8)
        clear ho8 hb8
        refine hK.out _ _ (HS2.out) (fun hHeld => ?_)
        clear hK K 
        try simp only [Act.put, List.getElem_toArray, List.getElem_cons_zero, List.getElem_cons_succ, List.setIfInBounds_toArray, List.set_cons_zero, List.set_cons_succ]
        refine wpAnyH_ready (rs := [8]) (by kernel_rfl) (by simp) ?_
        refine AllReadyH.cons (o := _) rfl (fun K hK => ?_) ?_
        · skip
          obtain ⟨A', n', c', hw⟩ := hHeld.2.2.2
          have y0 := hw.cell 0
          have yf := hw.frozen 0
          simp only [List.getElem?_cons_zero] at y0
          go_simp
          have HZ := hide (hw.set_ 0 (.slice A9 (delE es kj).length c9))
          have HZ1 := hide (show Below w.heap.size w (wn2.setCell ⟨w.heap.size + 1 + 1, 0, none⟩ (.slice A9 (delE es kj).length c9)) from hHeld.1.setCell (p := ⟨w.heap.size + 1 + 1, 0, none⟩) (by show w.heap.size ≤ w.heap.size + 1 + 1; omega) _)
          have HZ2 := hide ((show Mem (wn2.setCell ⟨w.heap.size + 1 + 1, 0, none⟩ (.slice A9 (delE es kj).length c9)) _ _ _ from HM9'.out.give hw (fun s e => by cases e)).mono (show wn2.heap.size ≤ (wn2.setCell ⟨w.heap.size + 1 + 1, 0, none⟩ (.slice A9 (delE es kj).length c9)).heap.size by simp))
          have HZ3 := hide ((show Mem (wn2.setCell ⟨w.heap.size + 1 + 1, 0, none⟩ (.slice A9 (delE es kj).length c9)) _ _ _ from HM8.out.give hw (fun s e => by cases e)).mono (show wn2.heap.size ≤ (wn2.setCell ⟨w.heap.size + 1 + 1, 0, none⟩ (.slice A9 (delE es kj).length c9)).heap.size by simp))
          have HZa := hide (show Whole (wn2.setCell ⟨w.heap.size + 1 + 1, 0, none⟩ (.slice A9 (delE es kj).length c9)) _ _ _ from hHeld.2.1.kp (Kp.set_only _ _ _ _) (fun e => by have e : w.heap.size = w.heap.size + 1 + 1 := e; omega))
          have HZb := hide (show Whole (wn2.setCell ⟨w.heap.size + 1 + 1, 0, none⟩ (.slice A9 (delE es kj).length c9)) _ _ _ from hHeld.2.2.1.kp (Kp.set_only _ _ _ _) (fun e => by have e : w.heap.size + 1 = w.heap.size + 1 + 1 := e; omega))
          clear hw
          generalize wn2.setCell ⟨w.heap.size + 1 + 1, 0, none⟩ (.slice A9 (delE es kj).length c9) = wz at *
          refine hK.out _ _ (⟨HZ1.out, HZa.out, HZb.out, _, _, _, HZ.out⟩) (fun hHeld => ?_)
          clear hK K y0 yf
          try simp only [Act.put, List.getElem_toArray, List.getElem_cons_zero, List.getElem_cons_succ, List.setIfInBounds_toArray, List.set_cons_zero, List.set_cons_succ]
          refine wpAnyH_take (i := 9) (v := ?vaq7) rfl (by kernel_rfl) (by kernel_rfl) (by kernel_rfl) (fun _ _ _ h => h) (Or.inl ⟨by rfl, ?haq7⟩) (by assumption) ?raq7
          case haq7 => (intro wq hSw; go_simp; (try with_reducible rfl))
          try simp only [Act.put, List.getElem_toArray, List.getElem_cons_zero, List.getElem_cons_succ, List.setIfInBounds_toArray, List.set_cons_zero, List.set_cons_succ]
          refine wpAnyH_take (i := 10) (v := ?vaq8) rfl (by kernel_rfl) (by kernel_rfl) (by kernel_rfl) (fun _ _ _ h => h) (Or.inl ⟨by rfl, ?haq8⟩) (by assumption) ?raq8
          case haq8 => (intro wq hSw; go_simp; (try with_reducible rfl))
          try simp only [Act.put, List.getElem_toArray, List.getElem_cons_zero, List.getElem_cons_succ, List.setIfInBounds_toArray, List.set_cons_zero, List.set_cons_succ]
          refine wpAnyH_done (by kernel_rfl) ?_ _
          go_wp2_with fail
          refine bodyPost_ret (v := .tuple #[bkV A9 (delE es kj).length c9, .slice A8 (delE es kj).length c8, .bool true]) (ret_does Tryz.results11 _ _ (w.heap.size + 1 + 1) A9 (delE es kj).length c9 rfl HZ.out) rfl ?_
          exact ⟨A9, c9, A8, c8, by rw [HQ.out], by rw [HQ.out]; exact HZ2.out, by rw [HQ.out]; exact HZ3.out, HZ1.out⟩
        exact AllReadyH.nil
      exact AllReadyH.nil
    exact AllReadyH.nil
  · have HQ := hide (show doesL es (d, kj, vj) = withL es kj vj from if_neg hd)
    have hdb : (d == 0) = false := beq_false_of_ne hd
    have HC := hide (with_any A c es kj vj w2 HM.out HBk.out)
    unfold bkV at HC
    go_wp2_with fail
    refine HC.out.mono ?_
    rintro e w3 ⟨A3, c3, rfl, hm3, hb3⟩
    unfold bkV
    have hb4 : Below w3.heap.size w3 (w3.alloc (.cells #[.slice A3 (withL es kj vj).length c3] 25)) := (Below.refl _ _).alloc (Nat.le_refl _) _
    have hb34 := hb3.trans (hb4.mono hb3.size)
    have HY4 := hide (show Whole (w3.alloc (.cells #[.slice A3 (withL es kj vj).length c3] 25)) w3.heap.size 25 [.slice A3 (withL es kj vj).length c3] from Whole.new w3 _ _)
    have HM4 := hide ((hm3.below hb4).mono hb4.size)
    have HB4 := hide hb34
    have HR := hide (rwith_any A2 c2 es kj vj (w3.alloc (.cells #[.slice A3 (withL es kj vj).length c3] 25)) ((HM2.out.below hb34).mono hb34.size) HBk.out)
    clear hm3 hb3 hb4 hb34 HC c0 d0 hd hdb
    go_upto_region 4 with fail
    generalize w3.alloc (.cells #[.slice A3 (withL es kj vj).length c3] 25) = w4 at *
    generalize w3.heap.size = B4 at *
    have e1 := (HB4.out.cell (p := ⟨w.heap.size + 1, 1, none⟩) l2).trans d1
    have e2 := (HB4.out.cell (p := ⟨w.heap.size + 1, 2, none⟩) l2).trans d2
    clear d1 d2 r0 rf
    go_wp2_with fail
    refine HR.out.mono ?_
    rintro e w5 ⟨A5, c5, rfl, hm5, hb5⟩
    have HX5 := hide ((HX3.out.below HB4.out l3).below hb5 (Nat.lt_of_lt_of_le l3 HB4.out.size))
    have HY5 := hide (HY4.out.below hb5 HY4.out.lt)
    have HM5 := hide hm5
    have HM5' := hide ((HM4.out.below hb5).mono hb5.size)
    have HB5 := hide (HB.out.trans ((HB4.out.trans (hb5.mono HB4.out.size)).mono HB.out.size))
    clear hm5 hb5 HR HY4 HM4 HB4 e1 e2
    have y0 := HY5.out.cell 0
    have r0 := HX5.out.cell 0
    have rf := HX5.out.frozen 0
    simp only [List.getElem?_cons_zero] at y0 r0
    generalize putErr es kj vj = er at *
    have hee : (er == er) = true := by simp
    have HZ := hide (HX5.out.set_ 0 (.slice A3 (withL es kj vj).length c3))
    have HZ1 := hide (show Below w.heap.size w (w5.setCell ⟨w.heap.size + 1 + 1, 0, none⟩ (.slice A3 (withL es kj vj).length c3)) from HB5.out.setCell (p := ⟨w.heap.size + 1 + 1, 0, none⟩) (by show w.heap.size ≤ w.heap.size + 1 + 1; omega) _)
    have HZ2 := hide ((show Mem (w5.setCell ⟨w.heap.size + 1 + 1, 0, none⟩ (.slice A3 (withL es kj vj).length c3)) _ _ _ from HM5'.out.give HX5.out (fun s e => by cases e)).mono (show w5.heap.size ≤ (w5.setCell ⟨w.heap.size + 1 + 1, 0, none⟩ (.slice A3 (withL es kj vj).length c3)).heap.size by simp))
    have HZ3 := hide ((show Mem (w5.setCell ⟨w.heap.size + 1 + 1, 0, none⟩ (.slice A3 (withL es kj vj).length c3)) _ _ _ from HM5.out.give HX5.out (fun s e => by cases e)).mono (show w5.heap.size ≤ (w5.setCell ⟨w.heap.size + 1 + 1, 0, none⟩ (.slice A3 (withL es kj vj).length c3)).heap.size by simp))
    go_wp2_with fail
    refine bodyPost_ret (v := .tuple #[bkV A3 (withL es kj vj).length c3, .slice A5 (withL es kj vj).length c5, .bool true]) (ret_does Tryz.results11 _ _ (w.heap.size + 1 + 1) A3 (withL es kj vj).length c3 rfl HZ.out) rfl ?_
    exact ⟨A3, c3, A5, c5, by rw [HQ.out], by rw [HQ.out]; exact HZ2.out, by rw [HQ.out]; exact HZ3.out, HZ1.out⟩
end Go.Proofs.YtokibbgahefkbaaGreatDoor.Fe
namespace Go.Proofs.YtokibbgahefkbaaGreatDoor.Fe
open Go.RowKit Go.Shelf

/-- two books in their boxes, the document's beside them -/
structure HSt (w wr : World) (B7 B8 : Nat) (A : Option Addr) (c : Nat) (b : List Ent) (A2 : Option Addr) (Ah : Option Addr) (ch : Nat) (bh : List Ent) (A2h : Option Addr) : Prop where
  bel : Below w.heap.size w wr
  x7 : Whole wr B7 25 [.slice A b.length c]
  x8 : Whole wr B8 25 [.slice Ah bh.length ch]
  m : Mem wr wr.heap.size A (pv b)
  m2 : Mem wr wr.heap.size A2 (pv b)
  mh : Mem wr wr.heap.size Ah (pv bh)
  mh2 : Mem wr wr.heap.size A2h (pv bh)
  bk : Bk b
  bkh : Bk bh
  d7 : w.heap.size ≤ B7
  d8 : w.heap.size ≤ B8
  ne : B7 ≠ B8
theorem HSt.below {w wr w' : World} {B7 B8 c ch : Nat} {A A2 Ah A2h : Option Addr} {b bh : List Ent} (h : HSt w wr B7 B8 A c b A2 Ah ch bh A2h) (hb : Below wr.heap.size wr w') : HSt w w' B7 B8 A c b A2 Ah ch bh A2h :=
  ⟨h.bel.trans (hb.mono h.bel.size), h.x7.below hb h.x7.lt, h.x8.below hb h.x8.lt, (h.m.below hb).mono hb.size, (h.m2.below hb).mono hb.size, (h.mh.below hb).mono hb.size, (h.mh2.below hb).mono hb.size, h.bk, h.bkh, h.d7, h.d8, h.ne⟩
theorem HSt.put7 {w wr : World} {B7 B8 c c' ch : Nat} {A A' A2 A2' Ah A2h : Option Addr} {b b' bh : List Ent} (h : HSt w wr B7 B8 A c b A2 Ah ch bh A2h) (hm : Mem wr wr.heap.size A' (pv b')) (hm2 : Mem wr wr.heap.size A2' (pv b')) (hb : Bk b') :
    HSt w (wr.setCell ⟨B7, 0, none⟩ (.slice A' b'.length c')) B7 B8 A' c' b' A2' Ah ch bh A2h := by
  have gv : ∀ (X : Option Addr) (es : List Ent), Mem wr wr.heap.size X (pv es) → Mem (wr.setCell ⟨B7, 0, none⟩ (.slice A' b'.length c')) (wr.setCell ⟨B7, 0, none⟩ (.slice A' b'.length c')).heap.size X (pv es) := fun X es hx =>
    (show Mem (wr.setCell ⟨B7, 0, none⟩ (.slice A' b'.length c')) _ _ _ from hx.give h.x7 (fun s e => by cases e)).mono (by simp)
  exact ⟨h.bel.setCell (p := ⟨B7, 0, none⟩) h.d7 _, h.x7.set_ 0 _, h.x8.kp (Kp.set_only _ _ _ _) (fun e => h.ne (show B8 = B7 from e).symm), gv _ _ hm, gv _ _ hm2, gv _ _ h.mh, gv _ _ h.mh2, hb, h.bkh, h.d7, h.d8, h.ne⟩
theorem HSt.put8 {w wr : World} {B7 B8 c ch : Nat} {A A2 Ah A2h : Option Addr} {b bh : List Ent} (h : HSt w wr B7 B8 A c b A2 Ah ch bh A2h) :
    HSt w (wr.setCell ⟨B8, 0, none⟩ (.slice A b.length c)) B7 B8 A c b A2 A c b A2 := by
  have gv : ∀ (X : Option Addr) (es : List Ent), Mem wr wr.heap.size X (pv es) → Mem (wr.setCell ⟨B8, 0, none⟩ (.slice A b.length c)) (wr.setCell ⟨B8, 0, none⟩ (.slice A b.length c)).heap.size X (pv es) := fun X es hx =>
    (show Mem (wr.setCell ⟨B8, 0, none⟩ (.slice A b.length c)) _ _ _ from hx.give h.x8 (fun s e => by cases e)).mono (by simp)
  exact ⟨h.bel.setCell (p := ⟨B8, 0, none⟩) h.d8 _, h.x7.kp (Kp.set_only _ _ _ _) (fun e => h.ne e), h.x8.set_ 0 _, gv _ _ h.m, gv _ _ h.m2, gv _ _ h.m, gv _ _ h.m2, h.bk, h.bk, h.d7, h.d8, h.ne⟩
set_option maxHeartbeats 16000000 in
set_option maxRecDepth 20000 in
theorem keepBooks_any (A0 : Option Addr) (c0' : Nat) (acts : List ActT) (key pre : ByteArray) (w : World) (hm0 : Mem w w.heap.size A0 (av acts)) (hwk : Wak w) :
    Calls Tryz.prog 4 #[.slice A0 acts.length c0', .string key, .string pre] w fun e w' => e = .returned (.bool true) ∧ Below w.heap.size w w' := by
  have HWk := hide hwk
  have HM0 := hide hm0
  have HGr := hide (great_any A0 c0' acts w hm0)
  clear hwk hm0
  go_enter Tryz.func4, Tryz.ntmps4
  go_wp2_with fail
  refine HGr.out.mono ?_
  rintro e w1 ⟨rfl, g, rfl, hsm⟩
  have HSm := hide hsm
  clear hsm HGr
  have HW := hide (HWk.out w (Below.refl _ _))
  by_cases hbad : g = true ∨ 300 < key.size ∨ 300 < pre.size
  · have hbI : g = true ∨ (300 : Int) < (key.size : Int) ∨ (300 : Int) < (pre.size : Int) := by
      rcases hbad with h | h | h
      · exact .inl h
      · exact .inr (.inl (by omega))
      · exact .inr (.inr (by omega))
    clear hbad
    by_cases h1 : (300 : Int) < (key.size : Int) <;> by_cases h2 : (300 : Int) < (pre.size : Int) <;> cases g
    all_goals first
      | (exfalso; simp [h1, h2] at hbI; done)
      | (clear hbI
         go_wp2_with fail
         refine HW.out.mono ?_
         rintro e w1 ⟨rfl, hb⟩
         have HB := hide hb
         clear hb
         go_wp2_with fail
         go_ret
         exact ⟨rfl, HB.out⟩)
  · obtain rfl : g = false := by cases g with
      | false => rfl
      | true => exact absurd (.inl rfl) hbad
    have h1 : ¬ (300 : Int) < (key.size : Int) := fun h => hbad (.inr (.inl (by omega)))
    have h2 : ¬ (300 : Int) < (pre.size : Int) := fun h => hbad (.inr (.inr (by omega)))
    have hn60 := (HSm.out rfl).1
    clear hbad HSm HW
    go_upto_region 4 with fail
    have HSt0 := hide (show HSt w ((w.alloc (.cells #[.slice none 0 0] 25)).alloc (.cells #[.slice none 0 0] 25)) w.heap.size (w.heap.size + 1) none 0 [] none none 0 [] none from by
      have z1 : (w.alloc (.cells #[.slice none 0 0] 25)).heap.size = w.heap.size + 1 := by simp
      have x2 := Whole.new (w.alloc (.cells #[.slice none 0 0] 25)) [.slice none 0 0] 25
      rw [z1] at x2
      have b2 : Below (w.heap.size + 1) (w.alloc (.cells #[.slice none 0 0] 25)) ((w.alloc (.cells #[.slice none 0 0] 25)).alloc (.cells #[.slice none 0 0] 25)) := (Below.refl _ _).alloc (by omega) _
      have b1 : Below w.heap.size w (w.alloc (.cells #[.slice none 0 0] 25)) := (Below.refl _ _).alloc (Nat.le_refl _) _
      exact ⟨b1.trans (b2.mono (by omega)), Whole.below (Whole.new w [.slice none 0 0] 25) b2 (by omega), x2, Mem.nil, Mem.nil, Mem.nil, Mem.nil, Bk.nil, Bk.nil, Nat.le_refl _, by omega, by omega⟩)
    generalize (w.alloc (.cells #[.slice none 0 0] 25)).alloc (.cells #[.slice none 0 0] 25) = w1 at *
    generalize hB7 : w.heap.size = B7 at HSt0 ⊢
    generalize hB8 : B7 + 1 = B8 at HSt0 ⊢
    clear hB7 hB8
    go_upto_region 6 with fail
    go_loopw [9, 10, 11, 12, 13, 14] (fun x9 x10 x11 _ _ _ wr => ∃ (j : Nat) (b : List Ent) (A : Option Addr) (c : Nat) (A2 : Option Addr) (c2 : Nat) (bh : List Ent) (Ah : Option Addr) (ch : Nat) (A2h : Option Addr) (c2h : Nat), j ≤ acts.length ∧ x11 = .int .i64 j ∧ x9 = .slice A2 b.length c2 ∧ x10 = .slice A2h bh.length c2h ∧ HSt w wr B7 B8 A c b A2 Ah ch bh A2h) (fun _ _ x _ _ _ _ => acts.length - (Go.RowKit.intOf x).toNat)
    case atStart => exact ⟨0, [], none, 0, none, 0, [], none, 0, none, 0, Nat.zero_le _, rfl, rfl, rfl, HSt0.out⟩
    case round =>
      clear HSt0
      obtain ⟨j, b, A, c, A2, c2, bh, Ah, ch, A2h, c2h, hj, rfl, rfl, rfl, hst⟩ := hrel
      have HSt := hide hst
      clear hst
      by_cases hlt : j < acts.length
      · obtain ⟨g, off, rfl, hg, hc⟩ := acts_at HM0.out (by omega)
        obtain ⟨f0, f1, f2⟩ := hc j hlt
        generalize acts[j] = aj at *
        obtain ⟨dj, kj, vj⟩ := aj
        simp only at f0 f1 f2
        clear hc
        have q0 := (HSt.out.bel.cell (p := ⟨g, off + j * 3, none⟩) hg).trans f0
        have q1 := (HSt.out.bel.cell (p := ⟨g, off + j * 3 + 1, none⟩) hg).trans f1
        have q2 := (HSt.out.bel.cell (p := ⟨g, off + j * 3 + 2, none⟩) hg).trans f2
        have hgr : g < wr.heap.size := Nat.lt_of_lt_of_le hg HSt.out.bel.size
        have c7 := HSt.out.x7.cell 0
        simp only [List.getElem?_cons_zero] at c7
        have l7 := HSt.out.x7.lt
        have HNum := hide (show Value.int IntKind.i64 ((j : Int) + 1) = .int .i64 ((j + 1 : Nat) : Int) from rfl)
        have HMs := hide (show acts.length - (Go.RowKit.intOf (Value.int IntKind.i64 ((j : Int) + 1))).toNat < acts.length - (Go.RowKit.intOf (Value.int IntKind.i64 (j : Int))).toNat by simp only [Go.RowKit.intOf]; omega)
        clear f0 f1 f2
        go_upto_region 8 with fail
        refine wp_region_held_drew (S := (fun w' => Below wr.heap.size wr w')) (by kernel_rfl) ((Below.refl _ _).drew) (fun hHeld => ?_)
        generalize wr.drew = wd at *
        refine wpAnyH_take (i := 0) (v := ?vaq1) rfl (by kernel_rfl) (by kernel_rfl) (by kernel_rfl) (fun _ _ _ h => h) (Or.inl ⟨by rfl, ?haq1⟩) (by assumption) ?raq1
        case haq1 => (intro wq hSw; have e0 := (hSw.cell (p := ⟨B7, 0, none⟩) l7).trans c7; go_simp; (try with_reducible rfl))
        try simp only [Act.put, List.getElem_toArray, List.getElem_cons_zero, List.setIfInBounds_toArray, List.set_cons_zero, List.set_cons_succ]
        refine wpAnyH_take (i := 1) (v := ?vaq2) rfl (by kernel_rfl) (by kernel_rfl) (by kernel_rfl) (fun _ _ _ h => h) (Or.inl ⟨by rfl, ?haq2⟩) (by assumption) ?raq2
        case haq2 => (intro wq hSw; go_simp; (try with_reducible rfl))
        try simp only [Act.put, List.getElem_toArray, List.getElem_cons_zero, List.getElem_cons_succ, List.setIfInBounds_toArray, List.set_cons_zero, List.set_cons_succ]
        refine wpAnyH_take (i := 2) (v := ?vaq3) rfl (by kernel_rfl) (by kernel_rfl) (by kernel_rfl) (fun _ _ _ h => h) (Or.inl ⟨by rfl, ?haq3⟩) (by assumption) ?raq3
        case haq3 => (intro wq hSw; go_simp; (try with_reducible rfl))
        try simp only [Act.put, List.getElem_toArray, List.getElem_cons_zero, List.getElem_cons_succ, List.setIfInBounds_toArray, List.set_cons_zero, List.set_cons_succ]
        refine wpAnyH_take (i := 3) (v := ?vaq4) rfl (by kernel_rfl) (by kernel_rfl) (by kernel_rfl) (fun _ _ _ h => h) (Or.inl ⟨by rfl, ?haq4⟩) (by assumption) ?raq4
        case haq4 => (intro wq hSw; go_simp; (try with_reducible rfl))
        try simp only [Act.put, List.getElem_toArray, List.getElem_cons_zero, List.getElem_cons_succ, List.setIfInBounds_toArray, List.set_cons_zero, List.set_cons_succ]
        refine wpAnyH_take (i := 4) (v := ?vaq5) rfl (by kernel_rfl) (by kernel_rfl) (by kernel_rfl) (fun _ _ _ h => h) (Or.inl ⟨by rfl, ?haq5⟩) (by assumption) ?raq5
        case haq5 => (intro wq hSw; go_simp; (try with_reducible rfl))
        try simp only [Act.put, List.getElem_toArray, List.getElem_cons_zero, List.getElem_cons_succ, List.setIfInBounds_toArray, List.set_cons_zero, List.set_cons_succ]
        refine wpAnyH_take (i := 5) (v := ?vaq6) rfl (by kernel_rfl) (by kernel_rfl) (by kernel_rfl) (fun _ _ _ h => h) (Or.inl ⟨by rfl, ?haq6⟩) (by assumption) ?raq6
        case haq6 => (intro wq hSw; have e0 := (hSw.cell (p := ⟨g, off + j * 3, none⟩) hgr).trans q0; have e1 := (hSw.cell (p := ⟨g, off + j * 3 + 1, none⟩) hgr).trans q1; have e2 := (hSw.cell (p := ⟨g, off + j * 3 + 2, none⟩) hgr).trans q2; go_simp; (try with_reducible rfl))
        try simp only [Act.put, List.getElem_toArray, List.getElem_cons_zero, List.getElem_cons_succ, List.setIfInBounds_toArray, List.set_cons_zero, List.set_cons_succ]
        refine wpAnyH_ready (rs := [6, 11]) (by kernel_rfl) (by simp) ?_
        refine AllReadyH.cons (o := _) rfl (fun K hK => ?_) ?_
        · skip
          go_simp
          have hcl := does_any A A2 c c2 b (dj, kj, vj) wd (HSt.out.below hHeld).m (HSt.out.below hHeld).m2 HSt.out.bk
          unfold bkV at hcl
          refine hcl.mono ?_
          rintro e wn ⟨A9, c9, A8, c8, rfl, hm9, hm8, hb9⟩
          unfold bkV
          have HM9 := hide hm9
          have HM8 := hide hm8
          have HS1 := hide (hHeld.trans (hb9.mono hHeld.size))
          clear hm9 hm8 hb9 hcl
          refine hK.out _ _ (HS1.out) (fun hHeld => ?_)
          clear hK K 
          try simp only [Act.put, List.getElem_toArray, List.getElem_cons_zero, List.getElem_cons_succ, List.setIfInBounds_toArray, List.set_cons_zero, List.set_cons_succ]
          refine wpAnyH_take (i := 7) (v := ?vaq7) rfl (by kernel_rfl) (by kernel_rfl) (by kernel_rfl) (fun _ _ _ h => h) (Or.inl ⟨by rfl, ?haq7⟩) (by assumption) ?raq7
          case haq7 => (intro wq hSw; go_simp; (try with_reducible rfl))
          try simp only [Act.put, List.getElem_toArray, List.getElem_cons_zero, List.getElem_cons_succ, List.setIfInBounds_toArray, List.set_cons_zero, List.set_cons_succ]
          refine wpAnyH_take (i := 8) (v := ?vaq8) rfl (by kernel_rfl) (by kernel_rfl) (by kernel_rfl) (fun _ _ _ h => h) (Or.inl ⟨by rfl, ?haq8⟩) (by assumption) ?raq8
          case haq8 => (intro wq hSw; go_simp; (try with_reducible rfl))
          try simp only [Act.put, List.getElem_toArray, List.getElem_cons_zero, List.getElem_cons_succ, List.setIfInBounds_toArray, List.set_cons_zero, List.set_cons_succ]
          refine wpAnyH_take (i := 9) (v := ?vaq9) rfl (by kernel_rfl) (by kernel_rfl) (by kernel_rfl) (fun _ _ _ h => h) (Or.inl ⟨by rfl, ?haq9⟩) (by assumption) ?raq9
          case haq9 => (intro wq hSw; go_simp; (try with_reducible rfl))
          try simp only [Act.put, List.getElem_toArray, List.getElem_cons_zero, List.getElem_cons_succ, List.setIfInBounds_toArray, List.set_cons_zero, List.set_cons_succ]
          refine wpAnyH_take (i := 10) (v := ?vaq10) rfl (by kernel_rfl) (by kernel_rfl) (by kernel_rfl) (fun _ _ _ h => h) (Or.inl ⟨by rfl, ?haq10⟩) (by assumption) ?raq10
          case haq10 => (intro wq hSw; go_simp; (try with_reducible rfl))
          try simp only [Act.put, List.getElem_toArray, List.getElem_cons_zero, List.getElem_cons_succ, List.setIfInBounds_toArray, List.set_cons_zero, List.set_cons_succ]
          refine wpAnyH_ready (rs := [11]) (by kernel_rfl) (by simp) ?_
          refine AllReadyH.cons (o := _) rfl (fun K hK => ?_) ?_
          · skip
            go_simp
            have hb4 : Below wn.heap.size wn (wn.alloc (.cells #[.slice none 0 0] 25)) := (Below.refl _ _).alloc (Nat.le_refl _) _
            have HX12 := hide (show Whole (wn.alloc (.cells #[.slice none 0 0] 25)) wn.heap.size 25 [.slice none 0 0] from Whole.new wn _ _)
            have HL12 := hide hHeld.size
            have HMa9 := hide ((HM9.out.below hb4).mono hb4.size)
            have HMa8 := hide ((HM8.out.below hb4).mono hb4.size)
            clear HM9 HM8
            have HSa := hide (hHeld.trans (hb4.mono hHeld.size))
            clear hb4
            generalize wn.alloc (.cells #[.slice none 0 0] 25) = wa at *
            generalize wn.heap.size = B12 at *
            refine hK.out _ _ (HSa.out) (fun hHeld => ?_)
            clear hK K 
            try simp only [Act.put, List.getElem_toArray, List.getElem_cons_zero, List.getElem_cons_succ, List.setIfInBounds_toArray, List.set_cons_zero, List.set_cons_succ]
            refine wpAnyH_ready (rs := [12]) (by kernel_rfl) (by simp) ?_
            refine AllReadyH.cons (o := _) rfl (fun K hK => ?_) ?_
            · skip
              have y0 := HX12.out.cell 0
              have yf := HX12.out.frozen 0
              simp only [List.getElem?_cons_zero] at y0
              go_simp
              have HMz9 := hide ((show Mem (wa.setCell ⟨B12, 0, none⟩ (.slice A9 (doesL b (dj, kj, vj)).length c9)) _ _ _ from HMa9.out.give HX12.out (fun s e => by cases e)).mono (show wa.heap.size ≤ (wa.setCell ⟨B12, 0, none⟩ (.slice A9 (doesL b (dj, kj, vj)).length c9)).heap.size by simp))
              have HMz8 := hide ((show Mem (wa.setCell ⟨B12, 0, none⟩ (.slice A9 (doesL b (dj, kj, vj)).length c9)) _ _ _ from HMa8.out.give HX12.out (fun s e => by cases e)).mono (show wa.heap.size ≤ (wa.setCell ⟨B12, 0, none⟩ (.slice A9 (doesL b (dj, kj, vj)).length c9)).heap.size by simp))
              have HXz := hide (HX12.out.set_ 0 (.slice A9 (doesL b (dj, kj, vj)).length c9))
              have HSs := hide (show Below wr.heap.size wr (wa.setCell ⟨B12, 0, none⟩ (.slice A9 (doesL b (dj, kj, vj)).length c9)) from hHeld.setCell (p := ⟨B12, 0, none⟩) HL12.out _)
              clear HMa9 HMa8 HX12
              generalize wa.setCell ⟨B12, 0, none⟩ (.slice A9 (doesL b (dj, kj, vj)).length c9) = wz at *
              refine hK.out _ _ (HSs.out) (fun hHeld => ?_)
              clear hK K y0 yf
              try simp only [Act.put, List.getElem_toArray, List.getElem_cons_zero, List.getElem_cons_succ, List.setIfInBounds_toArray, List.set_cons_zero, List.set_cons_succ]
              refine wpAnyH_take (i := 13) (v := ?vaq11) rfl (by kernel_rfl) (by kernel_rfl) (by kernel_rfl) (fun _ _ _ h => h) (Or.inl ⟨by rfl, ?haq11⟩) (by assumption) ?raq11
              case haq11 => (intro wq hSw; go_simp; (try with_reducible rfl))
              try simp only [Act.put, List.getElem_toArray, List.getElem_cons_zero, List.getElem_cons_succ, List.setIfInBounds_toArray, List.set_cons_zero, List.set_cons_succ]
              refine wpAnyH_take (i := 14) (v := ?vaq12) rfl (by kernel_rfl) (by kernel_rfl) (by kernel_rfl) (fun _ _ _ h => h) (Or.inl ⟨by rfl, ?haq12⟩) (by assumption) ?raq12
              case haq12 => (intro wq hSw; go_simp; (try with_reducible rfl))
              try simp only [Act.put, List.getElem_toArray, List.getElem_cons_zero, List.getElem_cons_succ, List.setIfInBounds_toArray, List.set_cons_zero, List.set_cons_succ]
              refine wpAnyH_done (by kernel_rfl) ?_ _
              have HSz := hide (HSt.out.below hHeld)
              have HBk := hide (doesL_bk (a := (dj, kj, vj)) HSt.out.bk)
              clear hHeld HSt q0 q1 q2 c7 l7
              generalize doesL b (dj, kj, vj) = b' at *
              have y0 := HXz.out.cell 0
              have r0 := HSz.out.x7.cell 0
              have rf := HSz.out.x7.frozen 0
              simp only [List.getElem?_cons_zero] at y0 r0
              go_upto_region 13 with fail
              have HSy := hide (HSz.out.put7 (c' := c9) HMz9.out HMz8.out HBk.out)
              clear HSz HMz9 HMz8 HBk HXz y0 r0 rf
              generalize wz.setCell ⟨B7, 0, none⟩ (.slice A9 b'.length c9) = wy at *
              have y7 := HSy.out.x7.cell 0
              have y8 := HSy.out.x8.cell 0
              have f8 := HSy.out.x8.frozen 0
              simp only [List.getElem?_cons_zero] at y7 y8
              go_wp2_with fail
              all_goals first
                | exact ⟨⟨j + 1, b', A9, c9, A8, c8, b', A9, c9, A8, c8, by omega, HNum.out, rfl, rfl, HSy.out.put8⟩, HMs.out⟩
                | exact ⟨⟨j + 1, b', A9, c9, A8, c8, bh, Ah, ch, A2h, c2h, by omega, HNum.out, rfl, rfl, HSy.out⟩, HMs.out⟩
            exact AllReadyH.nil
          exact AllReadyH.nil
        refine AllReadyH.cons (o := _) rfl (fun K hK => ?_) ?_
        · skip
          go_simp
          have hb4 : Below wd.heap.size wd (wd.alloc (.cells #[.slice none 0 0] 25)) := (Below.refl _ _).alloc (Nat.le_refl _) _
          have HX12 := hide (show Whole (wd.alloc (.cells #[.slice none 0 0] 25)) wd.heap.size 25 [.slice none 0 0] from Whole.new wd _ _)
          have HL12 := hide hHeld.size
          have HSa := hide (hHeld.trans (hb4.mono hHeld.size))
          clear hb4
          generalize wd.alloc (.cells #[.slice none 0 0] 25) = wa at *
          generalize wd.heap.size = B12 at *
          refine hK.out _ _ (HSa.out) (fun hHeld => ?_)
          clear hK K 
          try simp only [Act.put, List.getElem_toArray, List.getElem_cons_zero, List.getElem_cons_succ, List.setIfInBounds_toArray, List.set_cons_zero, List.set_cons_succ]
          refine wpAnyH_ready (rs := [6]) (by kernel_rfl) (by simp) ?_
          refine AllReadyH.cons (o := _) rfl (fun K hK => ?_) ?_
          · skip
            go_simp
            have hcl := does_any A A2 c c2 b (dj, kj, vj) wa (HSt.out.below hHeld).m (HSt.out.below hHeld).m2 HSt.out.bk
            unfold bkV at hcl
            refine hcl.mono ?_
            rintro e wn ⟨A9, c9, A8, c8, rfl, hm9, hm8, hb9⟩
            unfold bkV
            have HM9 := hide hm9
            have HM8 := hide hm8
            have HXn := hide (HX12.out.below hb9 HX12.out.lt)
            clear HX12
            have HS1 := hide (hHeld.trans (hb9.mono hHeld.size))
            clear hm9 hm8 hb9 hcl
            refine hK.out _ _ (HS1.out) (fun hHeld => ?_)
            clear hK K 
            try simp only [Act.put, List.getElem_toArray, List.getElem_cons_zero, List.getElem_cons_succ, List.setIfInBounds_toArray, List.set_cons_zero, List.set_cons_succ]
            refine wpAnyH_take (i := 7) (v := ?vaq13) rfl (by kernel_rfl) (by kernel_rfl) (by kernel_rfl) (fun _ _ _ h => h) (Or.inl ⟨by rfl, ?haq13⟩) (by assumption) ?raq13
            case haq13 => (intro wq hSw; go_simp; (try with_reducible rfl))
            try simp only [Act.put, List.getElem_toArray, List.getElem_cons_zero, List.getElem_cons_succ, List.setIfInBounds_toArray, List.set_cons_zero, List.set_cons_succ]
            refine wpAnyH_take (i := 8) (v := ?vaq14) rfl (by kernel_rfl) (by kernel_rfl) (by kernel_rfl) (fun _ _ _ h => h) (Or.inl ⟨by rfl, ?haq14⟩) (by assumption) ?raq14
            case haq14 => (intro wq hSw; go_simp; (try with_reducible rfl))
            try simp only [Act.put, List.getElem_toArray, List.getElem_cons_zero, List.getElem_cons_succ, List.setIfInBounds_toArray, List.set_cons_zero, List.set_cons_succ]
            refine wpAnyH_take (i := 9) (v := ?vaq15) rfl (by kernel_rfl) (by kernel_rfl) (by kernel_rfl) (fun _ _ _ h => h) (Or.inl ⟨by rfl, ?haq15⟩) (by assumption) ?raq15
            case haq15 => (intro wq hSw; go_simp; (try with_reducible rfl))
            try simp only [Act.put, List.getElem_toArray, List.getElem_cons_zero, List.getElem_cons_succ, List.setIfInBounds_toArray, List.set_cons_zero, List.set_cons_succ]
            refine wpAnyH_take (i := 10) (v := ?vaq16) rfl (by kernel_rfl) (by kernel_rfl) (by kernel_rfl) (fun _ _ _ h => h) (Or.inl ⟨by rfl, ?haq16⟩) (by assumption) ?raq16
            case haq16 => (intro wq hSw; go_simp; (try with_reducible rfl))
            try simp only [Act.put, List.getElem_toArray, List.getElem_cons_zero, List.getElem_cons_succ, List.setIfInBounds_toArray, List.set_cons_zero, List.set_cons_succ]
            refine wpAnyH_ready (rs := [12]) (by kernel_rfl) (by simp) ?_
            refine AllReadyH.cons (o := _) rfl (fun K hK => ?_) ?_
            · skip
              have y0 := HXn.out.cell 0
              have yf := HXn.out.frozen 0
              simp only [List.getElem?_cons_zero] at y0
              go_simp
              have HMz9 := hide ((show Mem (wn.setCell ⟨B12, 0, none⟩ (.slice A9 (doesL b (dj, kj, vj)).length c9)) _ _ _ from HM9.out.give HXn.out (fun s e => by cases e)).mono (show wn.heap.size ≤ (wn.setCell ⟨B12, 0, none⟩ (.slice A9 (doesL b (dj, kj, vj)).length c9)).heap.size by simp))
              have HMz8 := hide ((show Mem (wn.setCell ⟨B12, 0, none⟩ (.slice A9 (doesL b (dj, kj, vj)).length c9)) _ _ _ from HM8.out.give HXn.out (fun s e => by cases e)).mono (show wn.heap.size ≤ (wn.setCell ⟨B12, 0, none⟩ (.slice A9 (doesL b (dj, kj, vj)).length c9)).heap.size by simp))
              have HXz := hide (HXn.out.set_ 0 (.slice A9 (doesL b (dj, kj, vj)).length c9))
              have HSs := hide (show Below wr.heap.size wr (wn.setCell ⟨B12, 0, none⟩ (.slice A9 (doesL b (dj, kj, vj)).length c9)) from hHeld.setCell (p := ⟨B12, 0, none⟩) HL12.out _)
              clear HM9 HM8 HXn
              generalize wn.setCell ⟨B12, 0, none⟩ (.slice A9 (doesL b (dj, kj, vj)).length c9) = wz at *
              refine hK.out _ _ (HSs.out) (fun hHeld => ?_)
              clear hK K y0 yf
              try simp only [Act.put, List.getElem_toArray, List.getElem_cons_zero, List.getElem_cons_succ, List.setIfInBounds_toArray, List.set_cons_zero, List.set_cons_succ]
              refine wpAnyH_take (i := 13) (v := ?vaq17) rfl (by kernel_rfl) (by kernel_rfl) (by kernel_rfl) (fun _ _ _ h => h) (Or.inl ⟨by rfl, ?haq17⟩) (by assumption) ?raq17
              case haq17 => (intro wq hSw; go_simp; (try with_reducible rfl))
              try simp only [Act.put, List.getElem_toArray, List.getElem_cons_zero, List.getElem_cons_succ, List.setIfInBounds_toArray, List.set_cons_zero, List.set_cons_succ]
              refine wpAnyH_take (i := 14) (v := ?vaq18) rfl (by kernel_rfl) (by kernel_rfl) (by kernel_rfl) (fun _ _ _ h => h) (Or.inl ⟨by rfl, ?haq18⟩) (by assumption) ?raq18
              case haq18 => (intro wq hSw; go_simp; (try with_reducible rfl))
              try simp only [Act.put, List.getElem_toArray, List.getElem_cons_zero, List.getElem_cons_succ, List.setIfInBounds_toArray, List.set_cons_zero, List.set_cons_succ]
              refine wpAnyH_done (by kernel_rfl) ?_ _
              have HSz := hide (HSt.out.below hHeld)
              have HBk := hide (doesL_bk (a := (dj, kj, vj)) HSt.out.bk)
              clear hHeld HSt q0 q1 q2 c7 l7
              generalize doesL b (dj, kj, vj) = b' at *
              have y0 := HXz.out.cell 0
              have r0 := HSz.out.x7.cell 0
              have rf := HSz.out.x7.frozen 0
              simp only [List.getElem?_cons_zero] at y0 r0
              go_upto_region 13 with fail
              have HSy := hide (HSz.out.put7 (c' := c9) HMz9.out HMz8.out HBk.out)
              clear HSz HMz9 HMz8 HBk HXz y0 r0 rf
              generalize wz.setCell ⟨B7, 0, none⟩ (.slice A9 b'.length c9) = wy at *
              have y7 := HSy.out.x7.cell 0
              have y8 := HSy.out.x8.cell 0
              have f8 := HSy.out.x8.frozen 0
              simp only [List.getElem?_cons_zero] at y7 y8
              go_wp2_with fail
              all_goals first
                | exact ⟨⟨j + 1, b', A9, c9, A8, c8, b', A9, c9, A8, c8, by omega, HNum.out, rfl, rfl, HSy.out.put8⟩, HMs.out⟩
                | exact ⟨⟨j + 1, b', A9, c9, A8, c8, bh, Ah, ch, A2h, c2h, by omega, HNum.out, rfl, rfl, HSy.out⟩, HMs.out⟩
            exact AllReadyH.nil
          exact AllReadyH.nil
        exact AllReadyH.nil
      · obtain rfl : j = acts.length := by omega
        clear hlt
        obtain ⟨v, ok, hV⟩ : ∃ v ok, getV b key = .tuple #[.string v, .bool ok] := by unfold getV; split <;> exact ⟨_, _, rfl⟩
        have hl30 : b.length ≤ 100000 := Nat.le_trans HSt.out.bk.len (by decide)
        have HG := hide (by have h := get_any A c b key wr HSt.out.m hl30 HSt.out.bk.rise; rw [hV] at h; exact h)
        have HG2 := hide (fun w' (hb : Below wr.heap.size wr w') => by have h := rget_any A2 c2 b key w' (HSt.out.below hb).m2 hl30 HSt.out.bk.rise; rw [hV] at h; exact h)
        unfold bkV at HG
        have c7 := HSt.out.x7.cell 0
        simp only [List.getElem?_cons_zero] at c7
        clear hV
        go_wp2_with fail
        refine HG.out.mono ?_
        rintro e w2 ⟨rfl, hb2⟩
        have HB2 := hide hb2
        clear hb2 HG c7
        go_wp2_with fail
        refine (HG2.out w2 HB2.out).mono ?_
        rintro e w3 ⟨rfl, rfl⟩
        have HS3 := hide (HSt.out.below HB2.out)
        clear HG2 HB2 HSt
        have HK := hide (keys_any A c b pre w2 HS3.out.m hl30)
        unfold bkV at HK
        have c7 := HS3.out.x7.cell 0
        simp only [List.getElem?_cons_zero] at c7
        go_wp2_with fail
        refine HK.out.mono ?_
        rintro e w4 ⟨Ak, ck, rfl, hok, hb4⟩
        have HS4 := hide (HS3.out.below hb4)
        have HMk := hide (owns_mem hok)
        have HK2 := hide (rkeys_any A2 c2 b pre w4 HS4.out.m2 hl30)
        clear hok hb4 HK HS3 c7
        go_wp2_with fail
        refine HK2.out.mono ?_
        rintro e w5 ⟨Al, cl, rfl, hol, hb5⟩
        have HS5 := hide (HS4.out.below hb5)
        have HMk5 := hide ((HMk.out.below hb5).mono hb5.size)
        have HMl := hide (owns_mem hol)
        have hl2 : (keysW b pre).length ≤ 100000 := by unfold keysW; rw [List.length_map]; exact Nat.le_trans (List.length_filter_le _ _) hl30
        clear hol hb5 HK2 HS4 HMk hl30
        generalize keysW b pre = l at *
        go_upto_region 22 with fail
        go_loopw [21] (fun x wr => ∃ i : Nat, i ≤ l.length ∧ x = .int .i64 i ∧ Below w5.heap.size w5 wr) (fun x _ => l.length - (Go.RowKit.intOf x).toNat)
        case atStart => exact ⟨0, Nat.zero_le _, rfl, Below.refl _ _⟩
        case round =>
          obtain ⟨i, hi, rfl, hbr⟩ := hrel
          have HBr := hide hbr
          have HSr := hide (HS5.out.below hbr)
          have HKr := hide ((HMk5.out.below hbr).mono hbr.size)
          have HLr := hide ((HMl.out.below hbr).mono hbr.size)
          clear hbr
          by_cases hlt : i < l.length
          · obtain ⟨g, off, rfl, hg, hc⟩ := keys_at HKr.out (by omega)
            obtain ⟨g2, off2, rfl, hg2, hc2⟩ := keys_at HLr.out (by omega)
            have f1 := hc i hlt
            have f2 := hc2 i hlt
            generalize l[i] = ki at *
            have HNum := hide (show Value.int IntKind.i64 ((i : Int) + 1) = .int .i64 ((i + 1 : Nat) : Int) from rfl)
            have HMs := hide (show l.length - (Go.RowKit.intOf (Value.int IntKind.i64 ((i : Int) + 1))).toNat < l.length - (Go.RowKit.intOf (Value.int IntKind.i64 (i : Int))).toNat by simp only [Go.RowKit.intOf]; omega)
            clear hc hc2
            go_upto_region 24 with fail
            go_quiet (fail)
            have HBm := hide (show Below w5.heap.size w5 (wr.drewN nq) from ⟨HBr.out.os, HBr.out.tape, HBr.out.output, HBr.out.size, HBr.out.block⟩)
            go_wp2_with fail
            exact ⟨⟨i + 1, by omega, HNum.out, HBm.out⟩, HMs.out⟩
          · obtain rfl : i = l.length := by omega
            clear hlt
            have HSa := hide (fun w' (hb : Below wr.heap.size wr w') => same_any A A2 c c2 b w' (HSr.out.below hb).m (HSr.out.below hb).m2 HSr.out.bk)
            have HSb := hide (fun w' (hb : Below wr.heap.size wr w') => same_any Ah A2h ch c2h bh w' (HSr.out.below hb).mh (HSr.out.below hb).mh2 HSr.out.bkh)
            unfold bkV at HSa HSb
            have c7 := HSr.out.x7.cell 0
            simp only [List.getElem?_cons_zero] at c7
            go_wp2_with fail
            refine (HSa.out wr (Below.refl _ _)).mono ?_
            rintro e w6 ⟨rfl, hb6⟩
            have HB6 := hide hb6
            have c8 := (HSr.out.below hb6).x8.cell 0
            simp only [List.getElem?_cons_zero] at c8
            clear hb6 c7 HSa
            go_wp2_with fail
            refine (HSb.out w6 HB6.out).mono ?_
            rintro e w7 ⟨rfl, hb7⟩
            have HB7 := hide (HSr.out.bel.trans ((HB6.out.trans (hb7.mono HB6.out.size)).mono HSr.out.bel.size))
            clear hb7 HSb c8
            have HWa := hide (HWk.out w7 HB7.out)
            go_wp2_with fail
            refine HWa.out.mono ?_
            rintro e w8 ⟨rfl, hb8⟩
            have HB8 := hide (HB7.out.trans (hb8.mono HB7.out.size))
            clear hb8
            go_wp2_with fail
            go_ret
            exact ⟨rfl, HB8.out⟩
end Go.Proofs.YtokibbgahefkbaaGreatDoor.Fe
