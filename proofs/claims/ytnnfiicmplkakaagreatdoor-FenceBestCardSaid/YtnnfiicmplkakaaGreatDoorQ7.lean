/- Package bits: Set. Package bits: Bytes. Package bits: Take. Package bits: Find, where the first word has a page that is not used. boxes.number, boxes.many, pages.sector; the text of a packer. Walk of pages.Format, on a disk of zeros. A page store in memory; its small methods. pages.all of two deeds; (*Store).says where all is well. A range over a function whose iterator keeps a state of its own in cells, and whose body always goes on: the law for the caller; marks at the return. -/
import Derived.Test.YtnnfiicmplkakaaGreatDoorQ6
import Derived.Deep.DeepCutAuto
import Derived.Laws.ResultCell
import Derived.Maps.OwnSet
import Derived.Deep.QuietTactic
import Derived.BigQuiet
import Derived.RangeFuncNested
import Derived.RangeFuncBound
import Derived.RangeFuncCalls
import Derived.RangeFuncLeaves
import Derived.Below
import Derived.Test.YtnnfiicmplkakaaGreatDoorQ1
namespace Go.Proofs.YtnnfiicmplkakaaGreatDoor
open Go.RowKit Go.Shelf

def setB (ws : List Nat) (i : Nat) : List Nat := ws.set (i / 64) (ws.getD (i / 64) 0 ||| 2 ^ (i % 64))
theorem MapOk.setB {n : Nat} {ws : List Nat} (h : MapOk n ws) (i : Nat) : MapOk n (setB ws i) := by
  refine ⟨by rw [Go.Proofs.YtnnfiicmplkakaaGreatDoor.setB, List.length_set]; exact h.len, fun x hx => ?_, h.n0, h.n1⟩
  rw [Go.Proofs.YtnnfiicmplkakaaGreatDoor.setB] at hx
  rcases List.mem_or_eq_of_mem_set hx with h1 | rfl
  · exact h.lt _ h1
  · have e : (18446744073709551616 : Nat) = 2 ^ 64 := by decide
    rw [e]
    refine Nat.or_lt_two_pow ?_ (Nat.pow_lt_pow_right (by decide) (by omega))
    rw [← e, List.getD_eq_getElem?_getD]
    rcases hk : ws[i / 64]? with _ | y
    · exact Nat.zero_lt_of_lt (by decide : 0 < 18446744073709551616)
    · exact h.lt _ (List.mem_of_getElem? hk)
theorem bitAt_setB {ws : List Nat} (i j : Nat) (hi : i / 64 < ws.length) : bitAt (setB ws i) j = (bitAt ws j || decide (i = j)) := by
  unfold bitAt setB
  rw [List.getD_eq_getElem?_getD, List.getD_eq_getElem?_getD, List.getElem?_set, List.getD_eq_getElem?_getD]
  by_cases hq : i / 64 = j / 64
  · rw [if_pos hq, if_pos (by omega), hq, Option.getD_some, Nat.testBit_or, Nat.testBit_two_pow]
    congr 1
    rw [Bool.eq_iff_iff, decide_eq_true_eq, decide_eq_true_eq]
    omega
  · rw [if_neg hq]
    have : ¬ i = j := fun e => hq (by rw [e])
    simp [this]
theorem whole_setCells {b : Nat} {t : TypeId} : ∀ (vs pre cs : List Value) (w : World), Whole w b t (pre ++ cs) → cs.length = vs.length → Whole (w.setCells b pre.length vs) b t (pre ++ vs)
  | [], pre, cs, w, h, hl => by
    rw [List.eq_nil_of_length_eq_zero hl] at h
    exact h
  | v :: vs, pre, cs, w, h, hl => by
    obtain ⟨c, cs, rfl⟩ : ∃ c cs', cs = c :: cs' := by
      cases cs with
      | nil => simp at hl
      | cons c cs => exact ⟨c, cs, rfl⟩
    have h2 := h.set_ pre.length v
    rw [List.set_append_right _ _ (Nat.le_refl _), Nat.sub_self, List.set_cons_zero] at h2
    have h3 := whole_setCells vs (pre ++ [v]) cs (w.setCell ⟨b, pre.length, none⟩ v) (by rw [List.append_assoc]; exact h2) (by simpa using hl)
    rw [List.length_append, List.length_singleton, List.append_assoc] at h3
    exact h3
theorem Whole.all {w : World} {b : Nat} {t : TypeId} {cs vs : List Value} (h : Whole w b t cs) (hl : cs.length = vs.length) : Whole (w.setCells b 0 vs) b t vs := whole_setCells vs [] cs w h hl
theorem Whole.thr {w : World} {b : Nat} {t : TypeId} {cs : List Value} (h : Whole w b t cs) : w.there b 0 cs.length := fun j hj => ⟨by rw [Nat.zero_add, h.cell, List.getElem?_eq_getElem hj]; rfl, h.frozen _⟩
theorem mapC_one (n : Nat) (ws : List Nat) : ∀ v ∈ mapC n ws, v.oneCell' = true := by
  intro v hv
  rcases List.mem_cons.1 hv with rfl | hv
  · rfl
  · simp only [wordsV, List.mem_map] at hv
    obtain ⟨x, _, rfl⟩ := hv
    rfl
theorem mapC_set {n : Nat} {ws : List Nat} (k x : Nat) : (mapC n ws).set (1 + k) (.int .u64 (x : Int)) = mapC n (ws.set k x) := by
  unfold mapC wordsV
  rw [Nat.add_comm, List.set_cons_succ, ← List.map_set]
theorem wrap_pow (r : Nat) (h : r < 64) : IntKind.u64.wrap ((2 : Int) ^ r) = ((2 ^ r : Nat) : Int) := by
  have e : ((2 ^ r : Nat) : Int) = (2 : Int) ^ r := by rw [Int.natCast_pow]; rfl
  have h1 : 2 ^ r < 2 ^ 64 := Nat.pow_lt_pow_right (by decide) h
  have e64 : (2 : Nat) ^ 64 = 18446744073709551616 := by decide
  rw [← e, IntKind.wrap_u64]
  rw [e64] at h1
  generalize 2 ^ r = p at *
  omega
theorem and_not_or (x p : Nat) (hx : x < 18446744073709551616) (hp : p < 18446744073709551616) : ∃ y : Nat, y < 18446744073709551616 ∧ bits .andNot .u64 (x : Int) (p : Int) = (y : Int) ∧ y ||| p = x ||| p := by
  have h1 : (BitVec.ofInt 64 (x : Int)).toNat = x := by
    rw [BitVec.ofInt_natCast, BitVec.toNat_ofNat]; exact Nat.mod_eq_of_lt (by omega)
  have h2 : (BitVec.ofInt 64 (p : Int)).toNat = p := by
    rw [BitVec.ofInt_natCast, BitVec.toNat_ofNat]; exact Nat.mod_eq_of_lt (by omega)
  refine ⟨(BitVec.ofInt 64 (x : Int) &&& ~~~ BitVec.ofInt 64 (p : Int)).toNat, BitVec.isLt _, ?_, ?_⟩
  · show IntKind.u64.wrap ((BitVec.ofInt 64 (x : Int) &&& ~~~ BitVec.ofInt 64 (p : Int)).toNat : Int) = _
    have := (BitVec.ofInt 64 (x : Int) &&& ~~~ BitVec.ofInt 64 (p : Int)).isLt
    rw [IntKind.wrap_u64]
    omega
  · have e : ∀ a b : BitVec 64, (a &&& ~~~ b) ||| b = a ||| b := fun a b => by
      ext j hj
      simp only [BitVec.getElem_or, BitVec.getElem_and, BitVec.getElem_not]
      cases a[j] <;> cases b[j] <;> rfl
    have := congrArg BitVec.toNat (e (BitVec.ofInt 64 (x : Int)) (BitVec.ofInt 64 (p : Int)))
    rw [BitVec.toNat_or, BitVec.toNat_or, h1, h2] at this
    exact this
set_option maxHeartbeats 2000000 in
set_option maxRecDepth 20000 in
theorem bset_any (n : Nat) (ws : List Nat) (i : Nat) (W : World) (h : MapOk n ws) (hi : i < n) :
    Calls Tryz.prog 96 #[mapV n ws, .int .i64 (i : Int), .bool true] W fun e w' => e = .returned (mapV n (setB ws i)) ∧ Below W.heap.size W w' := by
  have HOn := fun w' => hide (on_any n ws (i : Int) w' h.len)
  have hon : decide (0 ≤ (i : Int) ∧ (i : Int) < (n : Int)) = true := by simp; omega
  rw [hon] at HOn
  have hx2 := Whole.new W (mapC n ws) 194
  have hb : Below W.heap.size W (W.alloc (.cells (mapC n ws).toArray 194)) := (Below.refl _ _).alloc (Nat.le_refl _) _
  have HX := hide hx2
  have HB := hide hb
  have HIn := hide (mapInfo (n := n) h.len)
  clear hx2 hb hon
  go_enter Tryz.func96, Tryz.ntmps96
  go_upto_region 1 with fail
  have hl1 := HX.out.lt
  have hbz : Below W.heap.size W ((W.alloc (.cells (mapC n ws).toArray 194)).alloc (.cells (mapC 0 zeroWs).toArray 194)) := HB.out.alloc HB.out.size _
  have hxz := HX.out.below (w' := (W.alloc (.cells (mapC n ws).toArray 194)).alloc (.cells (mapC 0 zeroWs).toArray 194)) ((Below.refl _ _).alloc (Nat.le_refl _) _) hl1
  have hyz := Whole.new (W.alloc (.cells (mapC n ws).toArray 194)) (mapC 0 zeroWs) 194
  have z1 : (W.alloc (.cells (mapC n ws).toArray 194)).heap.size = W.heap.size + 1 := by simp
  rw [z1] at hyz
  change Whole ((W.alloc (.cells (mapC n ws).toArray 194)).alloc (.cells (mapC 0 zeroWs).toArray 194)) _ _ _ at hyz
  change Code.wp _ _ _ _ ((W.alloc (.cells (mapC n ws).toArray 194)).alloc (.cells (mapC 0 zeroWs).toArray 194))
  have HB2 := hide hbz
  have HX2 := hide hxz
  have HY2 := hide hyz
  clear hbz hxz hyz z1 HX HB hl1
  generalize (W.alloc (.cells (mapC n ws).toArray 194)).alloc (.cells (mapC 0 zeroWs).toArray 194) = w2 at *
  have HR2 := hide HX2.out.range
  unfold mapV at *
  go_wp2_with (refine wpList_load_mid rfl 194 _ rfl W.heap.size 0 rfl (mapC n ws) _ HR2.out Tryz.underlying194 rfl HIn.out ?_)
  refine (HOn w2).out.mono ?_
  rintro e w3 ⟨rfl, hb⟩
  have HB3 := hide (HB2.out.trans (hb.mono HB2.out.size))
  have HX3 := hide (HX2.out.below hb HX2.out.lt)
  have HY3 := hide (HY2.out.below hb HY2.out.lt)
  clear hb HB2 HX2 HY2 HR2
  have q0 : (i : Int) / 64 = ((i / 64 : Nat) : Int) := by omega
  have q1 : (i : Int) % 64 = ((i % 64 : Nat) : Int) := by omega
  have hk : i / 64 < ws.length := by have := h.len; have := h.n1; omega
  have HC := hide (mapC_word (n := n) hk)
  have hq16 : i / 64 < 16 := by have := h.n1; omega
  have hr64 : i % 64 < 64 := by omega
  have hx64 : ws.getD (i / 64) 0 < 18446744073709551616 := by
    rw [List.getD_eq_getElem?_getD, List.getElem?_eq_getElem hk]
    exact h.lt _ (List.getElem_mem hk)
  have HSB := hide (show setB ws i = ws.set (i / 64) (ws.getD (i / 64) 0 ||| 2 ^ (i % 64)) from rfl)
  have HMk := hide (h.setB i)
  generalize hsb : setB ws i = ws' at *
  have HSe := hide hsb
  clear hsb
  generalize i / 64 = q at *
  generalize i % 64 = r at *
  generalize ws.getD q 0 = x at *
  have HXx := hide hx64
  have wq0 : IntKind.i64.wrap (q : Int) = (q : Int) := IntWalk.i64_in _ (by omega)
  have wr0 : IntKind.i64.wrap (r : Int) = (r : Int) := IntWalk.i64_in _ (by omega)
  have q16 : (q : Int) < 16 := by omega
  have q1t : (i : Int).tmod 64 = (r : Int) := by rw [Int.tmod_eq_emod_of_nonneg (by omega)]; exact q1
  have HWp := hide (wrap_pow r hr64)
  have hp64 : 2 ^ r < 18446744073709551616 := Nat.lt_of_lt_of_eq (Nat.pow_lt_pow_right (by decide) hr64) (by decide : 2 ^ 64 = 18446744073709551616)
  obtain ⟨y, hy0, hy1, hy2⟩ := and_not_or x (2 ^ r) hx64 hp64
  have hor := bits_or_u64_nat y (2 ^ r) hy0 hp64
  rw [hy2] at hor
  have hws : ((mapC n ws).set (1 + q) (.int .u64 (y : Int))).set (1 + q) (.int .u64 ((x ||| 2 ^ r : Nat) : Int)) = mapC n ws' := by
    rw [List.set_set, mapC_set, HSB.out]
  generalize x ||| 2 ^ r = z at *
  generalize (2 : Nat) ^ r = p at *
  have HAn := hide hy1
  have HOr := hide hor
  have HWs := hide hws
  clear h hi hx64 HOn hp64 hy0 hy1 hy2 hor hws
  go_upto_region 3 with fail
  refine wp_region_held_drew (S := (fun w' => Kp (OnlyF W.heap.size) w3 w')) (by kernel_rfl) ((Kp.refl _ _).drew) (fun hHeld => ?_)
  have HXd := hide (HX3.out.kp (F := NoF) ((Kp.refl _ _).drew) (fun h => h.elim))
  generalize w3.drew = wd at *
  refine wpAnyH_take (i := 0) (v := ?vaq1) rfl (by kernel_rfl) (by kernel_rfl) (by kernel_rfl) (fun _ _ _ h => h) (Or.inl ⟨by rfl, ?haq1⟩) (by assumption) ?raq1
  case haq1 => (intro wq hSw; go_simp; (try with_reducible rfl))
  try simp only [Act.put, List.getElem_toArray, List.getElem_cons_zero, List.setIfInBounds_toArray, List.set_cons_zero, List.set_cons_succ]
  refine wpAnyH_take (i := 1) (v := ?vaq2) rfl (by kernel_rfl) (by kernel_rfl) (by kernel_rfl) (fun _ _ _ h => h) (Or.inl ⟨by rfl, ?haq2⟩) (by assumption) ?raq2
  case haq2 => (intro wq hSw; go_simp; (try with_reducible rfl))
  try simp only [Act.put, List.getElem_toArray, List.getElem_cons_zero, List.getElem_cons_succ, List.setIfInBounds_toArray, List.set_cons_zero, List.set_cons_succ]
  refine wpAnyH_take (i := 2) (v := ?vaq3) rfl (by kernel_rfl) (by kernel_rfl) (by kernel_rfl) (fun _ _ _ h => h) (Or.inl ⟨by rfl, ?haq3⟩) (by assumption) ?raq3
  case haq3 => (intro wq hSw; go_simp; (try with_reducible rfl))
  try simp only [Act.put, List.getElem_toArray, List.getElem_cons_zero, List.getElem_cons_succ, List.setIfInBounds_toArray, List.set_cons_zero, List.set_cons_succ]
  refine wpAnyH_take (i := 3) (v := ?vaq4) rfl (by kernel_rfl) (by kernel_rfl) (by kernel_rfl) (fun _ _ _ h => h) (Or.inl ⟨by rfl, ?haq4⟩) (by assumption) ?raq4
  case haq4 => (intro wq hSw; go_simp; (try with_reducible rfl))
  try simp only [Act.put, List.getElem_toArray, List.getElem_cons_zero, List.getElem_cons_succ, List.setIfInBounds_toArray, List.set_cons_zero, List.set_cons_succ]
  refine wpAnyH_take (i := 5) (v := ?vaq5) rfl (by kernel_rfl) (by kernel_rfl) (by kernel_rfl) (fun _ _ _ h => h) (Or.inl ⟨by rfl, ?haq5⟩) (by assumption) ?raq5
  case haq5 => (intro wq hSw; go_simp; (try with_reducible rfl))
  try simp only [Act.put, List.getElem_toArray, List.getElem_cons_zero, List.getElem_cons_succ, List.setIfInBounds_toArray, List.set_cons_zero, List.set_cons_succ]
  refine wpAnyH_take (i := 6) (v := .int .i64 (r : Int)) rfl (by kernel_rfl) (by kernel_rfl) (by kernel_rfl) (fun _ _ _ h => h) (Or.inl ⟨by rfl, ?haq6⟩) (by assumption) ?raq6
  case haq6 => (intro wq hSw; go_simp; (try with_reducible rfl))
  try simp only [Act.put, List.getElem_toArray, List.getElem_cons_zero, List.getElem_cons_succ, List.setIfInBounds_toArray, List.set_cons_zero, List.set_cons_succ]
  refine wpAnyH_take (i := 7) (v := ?vaq7) rfl (by kernel_rfl) (by kernel_rfl) (by kernel_rfl) (fun _ _ _ h => h) (Or.inl ⟨by rfl, ?haq7⟩) (by assumption) ?raq7
  case haq7 => (intro wq hSw; go_simp; (try with_reducible rfl))
  try simp only [Act.put, List.getElem_toArray, List.getElem_cons_zero, List.getElem_cons_succ, List.setIfInBounds_toArray, List.set_cons_zero, List.set_cons_succ]
  refine wpAnyH_take (i := 9) (v := ?vaq8) rfl (by kernel_rfl) (by kernel_rfl) (by kernel_rfl) (fun _ _ _ h => h) (Or.inl ⟨by rfl, ?haq8⟩) (by assumption) ?raq8
  case haq8 => (intro wq hSw; go_simp; (try with_reducible rfl))
  try simp only [Act.put, List.getElem_toArray, List.getElem_cons_zero, List.getElem_cons_succ, List.setIfInBounds_toArray, List.set_cons_zero, List.set_cons_succ]
  refine wpAnyH_ready (rs := [4]) (by kernel_rfl) (by simp) ?_
  refine AllReadyH.cons (o := _) rfl (fun K hK => ?_) ?_
  · skip
    have y : wd.cell? ⟨W.heap.size, 1 + q, none⟩ = some (.int .u64 (x : Int)) := (HXd.out.cell (1 + q)).trans HC.out
    go_simp
    refine hK.out _ _ (hHeld) (fun hHeld => ?_)
    clear hK K y
    try simp only [Act.put, List.getElem_toArray, List.getElem_cons_zero, List.getElem_cons_succ, List.setIfInBounds_toArray, List.set_cons_zero, List.set_cons_succ]
    refine wpAnyH_take (i := 8) (v := ?vaq9) rfl (by kernel_rfl) (by kernel_rfl) (by kernel_rfl) (fun _ _ _ h => h) (Or.inl ⟨by rfl, ?haq9⟩) (by assumption) ?raq9
    case haq9 => (intro wq hSw; go_simp; (try with_reducible rfl))
    try simp only [Act.put, List.getElem_toArray, List.getElem_cons_zero, List.getElem_cons_succ, List.setIfInBounds_toArray, List.set_cons_zero, List.set_cons_succ]
    refine wpAnyH_take (i := 10) (v := ?vaq10) rfl (by kernel_rfl) (by kernel_rfl) (by kernel_rfl) (fun _ _ _ h => h) (Or.inl ⟨by rfl, ?haq10⟩) (by assumption) ?raq10
    case haq10 => (intro wq hSw; go_simp; (try with_reducible rfl))
    try simp only [Act.put, List.getElem_toArray, List.getElem_cons_zero, List.getElem_cons_succ, List.setIfInBounds_toArray, List.set_cons_zero, List.set_cons_succ]
    refine wpAnyH_ready (rs := [11]) (by kernel_rfl) (by simp) ?_
    refine AllReadyH.cons (o := _) rfl (fun K hK => ?_) ?_
    · skip
      have y1 : wd.cell? ⟨W.heap.size, 1 + q, none⟩ = some (.int .u64 (x : Int)) := (HXd.out.cell (1 + q)).trans HC.out
      have y2 := HXd.out.frozen (1 + q)
      go_simp
      rw [HWp.out, HAn.out]
      have h1 := HXd.out.set_ (1 + q) (.int .u64 (y : Int))
      have hH := hHeld.setCell (p := ⟨W.heap.size, 1 + q, none⟩) (.inl rfl) (.int .u64 (y : Int))
      have HY4 := hide ((HY3.out.kp hHeld (fun e => absurd e (Nat.succ_ne_self W.heap.size))).kp (Kp.set_only _ _ (1 + q) (.int .u64 (y : Int))) (fun e => absurd e (Nat.succ_ne_self W.heap.size)))
      generalize wd.setCell ⟨W.heap.size, 1 + q, none⟩ (.int .u64 (y : Int)) = wf at *
      have HX4 := hide h1
      refine hK.out _ _ (hH) (fun hHeld => ?_)
      clear hK K h1 y1 y2
      try simp only [Act.put, List.getElem_toArray, List.getElem_cons_zero, List.getElem_cons_succ, List.setIfInBounds_toArray, List.set_cons_zero, List.set_cons_succ]
      refine wpAnyH_done (by kernel_rfl) ?_ _
      have HB4 := hide (HB3.out.trans (hHeld.below HB3.out.size (fun i hi => Nat.le_of_eq hi.symm)))
      have HC4 := hide (show ((mapC n ws).set (1 + q) (.int .u64 (y : Int)))[1 + q]? = some (.int .u64 (y : Int)) from List.getElem?_set_self (List.getElem?_eq_some_iff.1 HC.out).1)
      clear hHeld hH
      go_upto_region 5 with fail
      refine wp_region_held_drew (S := (fun w' => Kp (OnlyF W.heap.size) wf w')) (by kernel_rfl) ((Kp.refl _ _).drew) (fun hHeld => ?_)
      have HXd := hide (HX4.out.kp (F := NoF) ((Kp.refl _ _).drew) (fun h => h.elim))
      generalize wf.drew = wd at *
      refine wpAnyH_take (i := 0) (v := ?vbq1) rfl (by kernel_rfl) (by kernel_rfl) (by kernel_rfl) (fun _ _ _ h => h) (Or.inl ⟨by rfl, ?hbq1⟩) (by assumption) ?rbq1
      case hbq1 => (intro wq hSw; go_simp; (try with_reducible rfl))
      try simp only [Act.put, List.getElem_toArray, List.getElem_cons_zero, List.setIfInBounds_toArray, List.set_cons_zero, List.set_cons_succ]
      refine wpAnyH_take (i := 1) (v := ?vbq2) rfl (by kernel_rfl) (by kernel_rfl) (by kernel_rfl) (fun _ _ _ h => h) (Or.inl ⟨by rfl, ?hbq2⟩) (by assumption) ?rbq2
      case hbq2 => (intro wq hSw; go_simp; (try with_reducible rfl))
      try simp only [Act.put, List.getElem_toArray, List.getElem_cons_zero, List.getElem_cons_succ, List.setIfInBounds_toArray, List.set_cons_zero, List.set_cons_succ]
      refine wpAnyH_take (i := 2) (v := ?vbq3) rfl (by kernel_rfl) (by kernel_rfl) (by kernel_rfl) (fun _ _ _ h => h) (Or.inl ⟨by rfl, ?hbq3⟩) (by assumption) ?rbq3
      case hbq3 => (intro wq hSw; go_simp; (try with_reducible rfl))
      try simp only [Act.put, List.getElem_toArray, List.getElem_cons_zero, List.getElem_cons_succ, List.setIfInBounds_toArray, List.set_cons_zero, List.set_cons_succ]
      refine wpAnyH_take (i := 3) (v := ?vbq4) rfl (by kernel_rfl) (by kernel_rfl) (by kernel_rfl) (fun _ _ _ h => h) (Or.inl ⟨by rfl, ?hbq4⟩) (by assumption) ?rbq4
      case hbq4 => (intro wq hSw; go_simp; (try with_reducible rfl))
      try simp only [Act.put, List.getElem_toArray, List.getElem_cons_zero, List.getElem_cons_succ, List.setIfInBounds_toArray, List.set_cons_zero, List.set_cons_succ]
      refine wpAnyH_take (i := 5) (v := ?vbq5) rfl (by kernel_rfl) (by kernel_rfl) (by kernel_rfl) (fun _ _ _ h => h) (Or.inl ⟨by rfl, ?hbq5⟩) (by assumption) ?rbq5
      case hbq5 => (intro wq hSw; go_simp; (try with_reducible rfl))
      try simp only [Act.put, List.getElem_toArray, List.getElem_cons_zero, List.getElem_cons_succ, List.setIfInBounds_toArray, List.set_cons_zero, List.set_cons_succ]
      refine wpAnyH_take (i := 6) (v := .int .i64 (r : Int)) rfl (by kernel_rfl) (by kernel_rfl) (by kernel_rfl) (fun _ _ _ h => h) (Or.inl ⟨by rfl, ?hbq6⟩) (by assumption) ?rbq6
      case hbq6 => (intro wq hSw; go_simp; (try with_reducible rfl))
      try simp only [Act.put, List.getElem_toArray, List.getElem_cons_zero, List.getElem_cons_succ, List.setIfInBounds_toArray, List.set_cons_zero, List.set_cons_succ]
      refine wpAnyH_take (i := 7) (v := ?vbq7) rfl (by kernel_rfl) (by kernel_rfl) (by kernel_rfl) (fun _ _ _ h => h) (Or.inl ⟨by rfl, ?hbq7⟩) (by assumption) ?rbq7
      case hbq7 => (intro wq hSw; go_simp; (try with_reducible rfl))
      try simp only [Act.put, List.getElem_toArray, List.getElem_cons_zero, List.getElem_cons_succ, List.setIfInBounds_toArray, List.set_cons_zero, List.set_cons_succ]
      refine wpAnyH_take (i := 9) (v := ?vbq8) rfl (by kernel_rfl) (by kernel_rfl) (by kernel_rfl) (fun _ _ _ h => h) (Or.inl ⟨by rfl, ?hbq8⟩) (by assumption) ?rbq8
      case hbq8 => (intro wq hSw; go_simp; (try with_reducible rfl))
      try simp only [Act.put, List.getElem_toArray, List.getElem_cons_zero, List.getElem_cons_succ, List.setIfInBounds_toArray, List.set_cons_zero, List.set_cons_succ]
      refine wpAnyH_ready (rs := [4]) (by kernel_rfl) (by simp) ?_
      refine AllReadyH.cons (o := _) rfl (fun K hK => ?_) ?_
      · skip
        have y5 : wd.cell? ⟨W.heap.size, 1 + q, none⟩ = some (.int .u64 (y : Int)) := (HXd.out.cell (1 + q)).trans HC4.out
        go_simp
        refine hK.out _ _ (hHeld) (fun hHeld => ?_)
        clear hK K y5
        try simp only [Act.put, List.getElem_toArray, List.getElem_cons_zero, List.getElem_cons_succ, List.setIfInBounds_toArray, List.set_cons_zero, List.set_cons_succ]
        refine wpAnyH_take (i := 8) (v := ?vbq9) rfl (by kernel_rfl) (by kernel_rfl) (by kernel_rfl) (fun _ _ _ h => h) (Or.inl ⟨by rfl, ?hbq9⟩) (by assumption) ?rbq9
        case hbq9 => (intro wq hSw; go_simp; (try with_reducible rfl))
        try simp only [Act.put, List.getElem_toArray, List.getElem_cons_zero, List.getElem_cons_succ, List.setIfInBounds_toArray, List.set_cons_zero, List.set_cons_succ]
        refine wpAnyH_take (i := 10) (v := ?vbq10) rfl (by kernel_rfl) (by kernel_rfl) (by kernel_rfl) (fun _ _ _ h => h) (Or.inl ⟨by rfl, ?hbq10⟩) (by assumption) ?rbq10
        case hbq10 => (intro wq hSw; go_simp; (try with_reducible rfl))
        try simp only [Act.put, List.getElem_toArray, List.getElem_cons_zero, List.getElem_cons_succ, List.setIfInBounds_toArray, List.set_cons_zero, List.set_cons_succ]
        refine wpAnyH_ready (rs := [11]) (by kernel_rfl) (by simp) ?_
        refine AllReadyH.cons (o := _) rfl (fun K hK => ?_) ?_
        · skip
          have y1 : wd.cell? ⟨W.heap.size, 1 + q, none⟩ = some (.int .u64 (y : Int)) := (HXd.out.cell (1 + q)).trans HC4.out
          have y2 := HXd.out.frozen (1 + q)
          go_simp
          rw [HWp.out, HOr.out]
          have h1 := HXd.out.set_ (1 + q) (.int .u64 (z : Int))
          rw [HWs.out] at h1
          have hH := hHeld.setCell (p := ⟨W.heap.size, 1 + q, none⟩) (.inl rfl) (.int .u64 (z : Int))
          have HY5 := hide ((HY4.out.kp hHeld (fun e => absurd e (Nat.succ_ne_self W.heap.size))).kp (Kp.set_only _ _ (1 + q) (.int .u64 (z : Int))) (fun e => absurd e (Nat.succ_ne_self W.heap.size)))
          generalize wd.setCell ⟨W.heap.size, 1 + q, none⟩ (.int .u64 (z : Int)) = wg at *
          have HX5 := hide h1
          refine hK.out _ _ (hH) (fun hHeld => ?_)
          clear hK K h1 y1 y2
          try simp only [Act.put, List.getElem_toArray, List.getElem_cons_zero, List.getElem_cons_succ, List.setIfInBounds_toArray, List.set_cons_zero, List.set_cons_succ]
          refine wpAnyH_done (by kernel_rfl) ?_ _
          have HB5 := hide (HB4.out.trans (hHeld.below HB4.out.size (fun i hi => Nat.le_of_eq hi.symm)))
          clear hHeld hH
          have HR5 := hide HX5.out.range
          have HT5 := hide HY5.out.thr
          have HIn2 := hide (mapInfo (n := n) HMk.out.len)
          have e17 : (mapC 0 zeroWs).length = (mapC n ws').toArray.size := (mapC_len (n := 0) (ws := zeroWs) rfl).trans (mapC_len (n := n) HMk.out.len).symm
          have ht6 := HY5.out.thr
          rw [e17] at ht6
          have HT6 := hide ht6
          clear ht6 e17
          have hI2 : (Tryz.prog.info? 194).map (·.size) = some (mapC n ws').toArray.size := by rw [List.size_toArray]; exact HIn2.out
          have HI2 := hide hI2
          have HOne := hide (all_oneCell_toArray (mapC_one n ws'))
          have h6 := HY5.out.all (vs := mapC n ws') (by rw [mapC_len HMk.out.len]; rfl)
          have hb6 : Below W.heap.size W (wg.setCells (W.heap.size + 1) 0 (mapC n ws')) := HB5.out.trans ((Kp.setCells (W.heap.size + 1) (mapC n ws') 0 wg).below HB5.out.size (fun i hi => by cases hi; omega))
          have HX6 := hide h6
          have HB6 := hide hb6
          clear h6 hb6 hI2
          go_wp2_with (first | (refine wpList_load_mid rfl 194 _ rfl W.heap.size 0 rfl (mapC n ws') _ HR5.out Tryz.underlying194 rfl HIn2.out ?_) | (refine wpList_store_mid rfl 194 _ _ rfl (W.heap.size + 1) 0 (mapC n ws').toArray rfl rfl HT6.out HI2.out HOne.out ?_))
          have HI3 := hide (show (Tryz.prog.info? 194).map (·.size) = some (mapC n ws').toArray.size from by rw [List.size_toArray]; exact HIn2.out)
          exact bodyPost_ret (results_cell_row Tryz.results96 _ _ (W.heap.size + 1) 194 (mapC n ws').toArray (0, 0) _ rfl HX6.out Tryz.underlying194 rfl HI3.out) rfl ⟨by rw [HSe.out]; rfl, HB6.out⟩
        exact AllReadyH.nil
      exact AllReadyH.nil
    exact AllReadyH.nil
  exact AllReadyH.nil
end Go.Proofs.YtnnfiicmplkakaaGreatDoor
namespace Go.Proofs.YtnnfiicmplkakaaGreatDoor
open Go.RowKit Go.Shelf

def nI (xs : List Nat) : List Int := xs.map fun (x : Nat) => (x : Int)
def byteBit (xs : List Nat) (j : Nat) : Bool := (xs.getD (j / 8) 0).testBit (j % 8)
def bytesTo (ws : List Nat) : Nat → List Nat
  | 0 => List.replicate 512 0
  | k + 1 => if bitAt ws k then (bytesTo ws k).set (k / 8) ((bytesTo ws k).getD (k / 8) 0 ||| 2 ^ (k % 8)) else bytesTo ws k
theorem bytesTo_len (ws : List Nat) : ∀ k, (bytesTo ws k).length = 512
  | 0 => List.length_replicate
  | k + 1 => by
    unfold bytesTo
    split
    · rw [List.length_set]; exact bytesTo_len ws k
    · exact bytesTo_len ws k
theorem getD_lt {xs : List Nat} {B : Nat} (h : ∀ x ∈ xs, x < B) (hB : 0 < B) (k : Nat) : xs.getD k 0 < B := by
  rw [List.getD_eq_getElem?_getD]
  rcases hk : xs[k]? with _ | y
  · exact hB
  · exact h _ (List.mem_of_getElem? hk)
theorem bytesTo_lt (ws : List Nat) : ∀ k, ∀ x ∈ bytesTo ws k, x < 256
  | 0 => fun x hx => by have := List.eq_of_mem_replicate hx; omega
  | k + 1 => by
    unfold bytesTo
    split
    · intro x hx
      rcases List.mem_or_eq_of_mem_set hx with h1 | rfl
      · exact bytesTo_lt ws k x h1
      · have e : (256 : Nat) = 2 ^ 8 := by decide
        rw [e]
        refine Nat.or_lt_two_pow ?_ (Nat.pow_lt_pow_right (by decide) (by omega))
        rw [← e]
        exact getD_lt (bytesTo_lt ws k) (by decide) _
    · exact bytesTo_lt ws k
theorem byteBit_set (xs : List Nat) (k j : Nat) (hk : k / 8 < xs.length) : byteBit (xs.set (k / 8) (xs.getD (k / 8) 0 ||| 2 ^ (k % 8))) j = (byteBit xs j || decide (k = j)) := by
  unfold byteBit
  rw [List.getD_eq_getElem?_getD, List.getD_eq_getElem?_getD, List.getElem?_set, List.getD_eq_getElem?_getD]
  by_cases hq : k / 8 = j / 8
  · rw [if_pos hq, if_pos (by omega), hq, Option.getD_some, Nat.testBit_or, Nat.testBit_two_pow]
    congr 1
    rw [Bool.eq_iff_iff, decide_eq_true_eq, decide_eq_true_eq]
    omega
  · rw [if_neg hq]
    have : ¬ k = j := fun e => hq (by rw [e])
    simp [this]
theorem bytesTo_bit (ws : List Nat) : ∀ k, k ≤ 4096 → ∀ j, byteBit (bytesTo ws k) j = (decide (j < k) && bitAt ws j)
  | 0, _, j => by
    have e : (List.replicate 512 0).getD (j / 8) 0 = 0 := by
      rw [List.getD_eq_getElem?_getD, List.getElem?_replicate]
      split <;> rfl
    unfold byteBit bytesTo
    rw [e, Nat.zero_testBit]
    simp
  | k + 1, hk, j => by
    have ih := bytesTo_bit ws k (by omega) j
    unfold bytesTo
    by_cases hb : bitAt ws k = true
    · rw [if_pos hb, byteBit_set _ _ _ (by rw [bytesTo_len]; omega), ih]
      by_cases hj : k = j
      · subst hj
        simp [hb]
      · have e : decide (j < k + 1) = decide (j < k) := by rw [Bool.eq_iff_iff, decide_eq_true_eq, decide_eq_true_eq]; omega
        simp [hj, e]
    · rw [if_neg hb, ih]
      by_cases hj : k = j
      · subst hj
        simp [hb]
      · have e : decide (j < k + 1) = decide (j < k) := by rw [Bool.eq_iff_iff, decide_eq_true_eq, decide_eq_true_eq]; omega
        rw [e]
theorem nI_len (xs : List Nat) : (nI xs).length = xs.length := by simp [nI]
theorem nI_byt {xs : List Nat} (h : ∀ x ∈ xs, x < 256) : Byt (nI xs) := by
  intro x hx
  simp only [nI, List.mem_map] at hx
  obtain ⟨y, hy, rfl⟩ := hx
  have := h y hy
  omega
theorem bvnI_get {xs : List Nat} {k : Nat} (h : k < xs.length) : (bv (nI xs))[k]? = some (.int .u8 ((xs.getD k 0 : Nat) : Int)) := by
  unfold bv nI
  rw [List.getElem?_map, List.getElem?_map, List.getElem?_eq_getElem h, List.getD_eq_getElem?_getD, List.getElem?_eq_getElem h]
  rfl
theorem bvnI_set (xs : List Nat) (k x : Nat) : (bv (nI xs)).set k (.int .u8 (x : Int)) = bv (nI (xs.set k x)) := by
  unfold bv nI
  rw [← List.map_set, ← List.map_set]
theorem bits_or_u8_nat (a b : Nat) (ha : a < 256) (hb : b < 256) : bits .or .u8 (a : Int) (b : Int) = ((a ||| b : Nat) : Int) :=
  (bits_nat .u8 8 (by decide) (fun n h0 h1 => wraps_u8 n h0 h1) a b ha hb).2
theorem wrap_pow8 (r : Nat) (h : r < 8) : IntKind.u8.wrap ((2 : Int) ^ r) = ((2 ^ r : Nat) : Int) := by
  have e : ((2 ^ r : Nat) : Int) = (2 : Int) ^ r := by rw [Int.natCast_pow]; rfl
  have h1 : 2 ^ r < 2 ^ 8 := Nat.pow_lt_pow_right (by decide) h
  have e8 : (2 : Nat) ^ 8 = 256 := by decide
  rw [e8] at h1
  rw [← e, IntKind.wrap_u8]
  generalize 2 ^ r = p at *
  omega
theorem made_n (n : Nat) : madeCells (Value.int .u8 0).cells n = (bv (nI (List.replicate n 0))).toArray := by
  apply Array.ext
  · rw [size_madeCells]; simp [bv, nI]
  · intro i h1 h2
    simp [madeCells, bv, nI, Nat.mod_one, Value.cells]
/-- while the bytes are made -/
structure BySt (W wr : World) (n : Nat) (ws xs : List Nat) : Prop where
  bel : Below W.heap.size W wr
  box : Whole wr W.heap.size 194 (mapC n ws)
  row : Whole wr (W.heap.size + 1) 5 (bv (nI xs))
theorem BySt.below {W wr wr' : World} {n : Nat} {ws xs : List Nat} (h : BySt W wr n ws xs) (hb : Below wr.heap.size wr wr') : BySt W wr' n ws xs :=
  ⟨h.bel.trans (hb.mono h.bel.size), h.box.below hb h.box.lt, h.row.below hb h.row.lt⟩
theorem BySt.set_ {W wr : World} {n : Nat} {ws xs : List Nat} (h : BySt W wr n ws xs) (k x : Nat) : BySt W (wr.setCell ⟨W.heap.size + 1, k, none⟩ (.int .u8 (x : Int))) n ws (xs.set k x) := by
  refine ⟨h.bel.setCell (Nat.le_succ _) _, h.box.kp (Kp.set_only _ _ _ _) (fun e => absurd e.symm (Nat.succ_ne_self _)), ?_⟩
  have := h.row.set_ k (.int .u8 (x : Int))
  rw [bvnI_set] at this
  exact this
def BytesOf (xs : List Int) (W : World) (e : Ending) (W' : World) : Prop := ∃ b, e = .returned (.slice (some ⟨b, 0, none⟩) 512 512) ∧ Whole W' b 5 (bv xs) ∧ W.heap.size ≤ b ∧ Below W.heap.size W W'
set_option maxHeartbeats 2000000 in
set_option maxRecDepth 20000 in
theorem bbytes_any (n : Nat) (ws : List Nat) (W : World) (h : MapOk n ws) :
    Calls Tryz.prog 97 #[mapV n ws] W (BytesOf (nI (bytesTo ws n)) W) := by
  obtain ⟨i0, hi0, hz0, hz1, hz2⟩ := info_parts infoU8
  have hmk := run_make (P := Tryz.prog) (W.alloc (.cells (mapC n ws).toArray 194)) 62 5 i0 _ Tryz.underlying62 hi0 hz0 .i64 .i64 512 512 (by omega) (Int.le_refl _) (by rw [hz2]; decide) (by decide)
  have hcs : madeCells (Value.int .u8 0).cells 512 = (bv (nI (bytesTo ws 0))).toArray := made_n 512
  have hmk2 : (Instr.makeSlice 62 (.int .i64 512) (.int .i64 512)).run Tryz.prog (W.alloc (.cells (mapC n ws).toArray 194)) = .ok (.slice (some ⟨(W.alloc (.cells (mapC n ws).toArray 194)).heap.size, 0, none⟩) 512 512) ((W.alloc (.cells (mapC n ws).toArray 194)).alloc (.cells (madeCells (Value.int .u8 0).cells 512) 5)) := by
    rw [hz1] at hmk
    exact hmk
  rw [hcs] at hmk2
  have z1 : (W.alloc (.cells (mapC n ws).toArray 194)).heap.size = W.heap.size + 1 := by simp
  have hb1 : Below W.heap.size W (W.alloc (.cells (mapC n ws).toArray 194)) := (Below.refl _ _).alloc (Nat.le_refl _) _
  have hx1 : Whole (W.alloc (.cells (mapC n ws).toArray 194)) _ _ _ := Whole.new W (mapC n ws) 194
  have hl1 := hx1.lt
  have hx2 : Whole ((W.alloc (.cells (mapC n ws).toArray 194)).alloc (.cells (bv (nI (bytesTo ws 0))).toArray 5)) _ _ _ := Whole.new (W.alloc (.cells (mapC n ws).toArray 194)) (bv (nI (bytesTo ws 0))) 5
  rw [z1] at hmk2 hx2
  have HS0 := hide (show BySt W ((W.alloc (.cells (mapC n ws).toArray 194)).alloc (.cells (bv (nI (bytesTo ws 0))).toArray 5)) n ws (bytesTo ws 0) from ⟨hb1.alloc hb1.size _, hx1.below (B := W.heap.size + 1) ((Below.refl (W.heap.size + 1) _).alloc (Nat.le_of_eq z1.symm) _) (Nat.lt_succ_self _), hx2⟩)
  have HOk := hide h
  have HIn := hide (mapInfo (n := n) h.len)
  have HHas := fun (i : Nat) (hi : i < n) w' => hide (bhas_any n ws i w' h hi)
  have hn := h.n1
  clear hmk hz0 hz1 hz2 hi0 hcs z1 hb1 hx1 hx2 hl1 h
  unfold mapV at *
  go_enter Tryz.func97, Tryz.ntmps97
  go_upto_region 1 with fail
  change Code.wp _ _ _ _ (W.alloc (.cells (mapC n ws).toArray 194))
  go_upto_region 2 with fail
  generalize (W.alloc (.cells (mapC n ws).toArray 194)).alloc (.cells (bv (nI (bytesTo ws 0))).toArray 5) = w2 at *
  have y0 : w2.cell? ⟨W.heap.size, 0, none⟩ = some (.int .i64 (n : Int)) := HS0.out.box.cell 0
  go_upto_region 3 with fail
  clear y0
  go_loopw [8] (fun x wr => ∃ k : Nat, k ≤ n ∧ x = .int .i64 k ∧ BySt W wr n ws (bytesTo ws k)) (fun x _ => n - (intOf x).toNat)
  case atStart => exact ⟨0, Nat.zero_le _, rfl, HS0.out⟩
  case round =>
    obtain ⟨k, hk, rfl, hst⟩ := hrel
    have HSt := hide hst
    clear hst
    by_cases hlt : k < n
    · have HR := hide HSt.out.box.range
      go_wp2_with (refine wpList_load_mid rfl 194 _ rfl W.heap.size 0 rfl (mapC n ws) _ HR.out Tryz.underlying194 rfl HIn.out ?_)
      refine (HHas k hlt wr).out.mono ?_
      rintro e w3 ⟨rfl, hb⟩
      have HS3 := hide (HSt.out.below hb)
      clear hb HR
      by_cases hbit : bitAt ws k = true
      · rw [hbit]
        have HStep := hide (show bytesTo ws (k + 1) = (bytesTo ws k).set (k / 8) ((bytesTo ws k).getD (k / 8) 0 ||| 2 ^ (k % 8)) by rw [bytesTo, if_pos hbit])
        have hlen := bytesTo_len ws k
        have hx256 := getD_lt (bytesTo_lt ws k) (by decide) (k / 8)
        have hq512 : k / 8 < 512 := by omega
        have hr8 : k % 8 < 8 := by omega
        have q0 : (k : Int).tdiv 8 = ((k / 8 : Nat) : Int) := by rw [Int.tdiv_eq_ediv_of_nonneg (by omega)]; omega
        have q1 : (k : Int).tmod 8 = ((k % 8 : Nat) : Int) := by rw [Int.tmod_eq_emod_of_nonneg (by omega)]; omega
        have HC := hide (bvnI_get (xs := bytesTo ws k) (k := k / 8) (by rw [hlen]; exact hq512))
        generalize hxs : bytesTo ws (k + 1) = xs' at *
        have HXs := hide hxs
        clear hxs
        generalize bytesTo ws k = xs at *
        generalize k / 8 = q at *
        generalize k % 8 = r at *
        generalize xs.getD q 0 = x at *
        have HWp := hide (wrap_pow8 r hr8)
        have hp256 : 2 ^ r < 256 := Nat.lt_of_lt_of_eq (Nat.pow_lt_pow_right (by decide) hr8) (by decide : 2 ^ 8 = 256)
        have HOr := hide (bits_or_u8_nat x (2 ^ r) hx256 hp256)
        generalize x ||| 2 ^ r = z at *
        generalize (2 : Nat) ^ r = p at *
        have wq0 : IntKind.i64.wrap (q : Int) = (q : Int) := IntWalk.i64_in _ (by omega)
        have wr0 : IntKind.i64.wrap (r : Int) = (r : Int) := IntWalk.i64_in _ (by omega)
        have q512 : (q : Int) < 512 := by omega
        clear hp256 hx256
        go_upto_region 6 with fail
        refine wp_region_held_drew (S := (fun w' => True)) (by kernel_rfl) (trivial) (fun hHeld => ?_)
        have HSd := hide (HS3.out.below (Below.refl _ _).drew)
        generalize w3.drew = wd at *
        refine wpAnyH_take (i := 0) (v := ?vaq1) rfl (by kernel_rfl) (by kernel_rfl) (by kernel_rfl) (fun _ _ _ h => h) (Or.inl ⟨by rfl, ?haq1⟩) (by assumption) ?raq1
        case haq1 => (intro wq hSw; go_simp; (try with_reducible rfl))
        try simp only [Act.put, List.getElem_toArray, List.getElem_cons_zero, List.setIfInBounds_toArray, List.set_cons_zero, List.set_cons_succ]
        refine wpAnyH_take (i := 1) (v := ?vaq2) rfl (by kernel_rfl) (by kernel_rfl) (by kernel_rfl) (fun _ _ _ h => h) (Or.inl ⟨by rfl, ?haq2⟩) (by assumption) ?raq2
        case haq2 => (intro wq hSw; go_simp; (try with_reducible rfl))
        try simp only [Act.put, List.getElem_toArray, List.getElem_cons_zero, List.getElem_cons_succ, List.setIfInBounds_toArray, List.set_cons_zero, List.set_cons_succ]
        refine wpAnyH_take (i := 2) (v := .int .i64 (q : Int)) rfl (by kernel_rfl) (by kernel_rfl) (by kernel_rfl) (fun _ _ _ h => h) (Or.inl ⟨by rfl, ?haq3⟩) (by assumption) ?raq3
        case haq3 => (intro wq hSw; go_simp; (try with_reducible rfl))
        try simp only [Act.put, List.getElem_toArray, List.getElem_cons_zero, List.getElem_cons_succ, List.setIfInBounds_toArray, List.set_cons_zero, List.set_cons_succ]
        refine wpAnyH_take (i := 3) (v := ?vaq4) rfl (by kernel_rfl) (by kernel_rfl) (by kernel_rfl) (fun _ _ _ h => h) (Or.inl ⟨by rfl, ?haq4⟩) (by assumption) ?raq4
        case haq4 => (intro wq hSw; go_simp; (try with_reducible rfl))
        try simp only [Act.put, List.getElem_toArray, List.getElem_cons_zero, List.getElem_cons_succ, List.setIfInBounds_toArray, List.set_cons_zero, List.set_cons_succ]
        refine wpAnyH_take (i := 5) (v := ?vaq5) rfl (by kernel_rfl) (by kernel_rfl) (by kernel_rfl) (fun _ _ _ h => h) (Or.inl ⟨by rfl, ?haq5⟩) (by assumption) ?raq5
        case haq5 => (intro wq hSw; go_simp; (try with_reducible rfl))
        try simp only [Act.put, List.getElem_toArray, List.getElem_cons_zero, List.getElem_cons_succ, List.setIfInBounds_toArray, List.set_cons_zero, List.set_cons_succ]
        refine wpAnyH_take (i := 6) (v := .int .i64 (r : Int)) rfl (by kernel_rfl) (by kernel_rfl) (by kernel_rfl) (fun _ _ _ h => h) (Or.inl ⟨by rfl, ?haq6⟩) (by assumption) ?raq6
        case haq6 => (intro wq hSw; go_simp; (try with_reducible rfl))
        try simp only [Act.put, List.getElem_toArray, List.getElem_cons_zero, List.getElem_cons_succ, List.setIfInBounds_toArray, List.set_cons_zero, List.set_cons_succ]
        refine wpAnyH_take (i := 7) (v := ?vaq7) rfl (by kernel_rfl) (by kernel_rfl) (by kernel_rfl) (fun _ _ _ h => h) (Or.inl ⟨by rfl, ?haq7⟩) (by assumption) ?raq7
        case haq7 => (intro wq hSw; go_simp; (try with_reducible rfl))
        try simp only [Act.put, List.getElem_toArray, List.getElem_cons_zero, List.getElem_cons_succ, List.setIfInBounds_toArray, List.set_cons_zero, List.set_cons_succ]
        refine wpAnyH_ready (rs := [4]) (by kernel_rfl) (by simp) ?_
        refine AllReadyH.cons (o := _) rfl (fun K hK => ?_) ?_
        · skip
          have y : wd.cell? ⟨W.heap.size + 1, q, none⟩ = some (.int .u8 (x : Int)) := (HSd.out.row.cell q).trans HC.out
          go_simp
          refine hK.out _ _ trivial (fun hHeld => ?_)
          clear hK K y
          try simp only [Act.put, List.getElem_toArray, List.getElem_cons_zero, List.getElem_cons_succ, List.setIfInBounds_toArray, List.set_cons_zero, List.set_cons_succ]
          refine wpAnyH_take (i := 8) (v := ?vaq8) rfl (by kernel_rfl) (by kernel_rfl) (by kernel_rfl) (fun _ _ _ h => h) (Or.inl ⟨by rfl, ?haq8⟩) (by assumption) ?raq8
          case haq8 => (intro wq hSw; go_simp; (try with_reducible rfl))
          try simp only [Act.put, List.getElem_toArray, List.getElem_cons_zero, List.getElem_cons_succ, List.setIfInBounds_toArray, List.set_cons_zero, List.set_cons_succ]
          refine wpAnyH_take (i := 9) (v := ?vaq9) rfl (by kernel_rfl) (by kernel_rfl) (by kernel_rfl) (fun _ _ _ h => h) (Or.inl ⟨by rfl, ?haq9⟩) (by assumption) ?raq9
          case haq9 => (intro wq hSw; go_simp; (try with_reducible rfl))
          try simp only [Act.put, List.getElem_toArray, List.getElem_cons_zero, List.getElem_cons_succ, List.setIfInBounds_toArray, List.set_cons_zero, List.set_cons_succ]
          refine wpAnyH_ready (rs := [10]) (by kernel_rfl) (by simp) ?_
          refine AllReadyH.cons (o := _) rfl (fun K hK => ?_) ?_
          · skip
            have y1 : wd.cell? ⟨W.heap.size + 1, q, none⟩ = some (.int .u8 (x : Int)) := (HSd.out.row.cell q).trans HC.out
            have y2 := HSd.out.row.frozen q
            go_simp
            rw [HWp.out, HOr.out]
            have h1 := HSd.out.set_ q z
            rw [← HStep.out] at h1
            generalize wd.setCell ⟨W.heap.size + 1, q, none⟩ (.int .u8 (z : Int)) = wf at *
            have HS4 := hide h1
            refine hK.out _ _ (trivial) (fun hHeld => ?_)
            clear hK K h1 y1 y2
            try simp only [Act.put, List.getElem_toArray, List.getElem_cons_zero, List.getElem_cons_succ, List.setIfInBounds_toArray, List.set_cons_zero, List.set_cons_succ]
            refine wpAnyH_done (by kernel_rfl) ?_ _
            clear hHeld
            go_wp2_with fail
            go_roundw
            case rel => exact ⟨k + 1, by omega, by go_num, by rw [HXs.out]; exact HS4.out⟩
            case measure => simp [intOf]; omega
          exact AllReadyH.nil
        exact AllReadyH.nil
      · have hbf : bitAt ws k = false := by simpa using hbit
        rw [hbf]
        have e1 : bytesTo ws (k + 1) = bytesTo ws k := by rw [bytesTo, if_neg hbit]
        go_wp2_with fail
        go_roundw
        case rel => exact ⟨k + 1, by omega, by go_num, by rw [e1]; exact HS3.out⟩
        case measure => simp [intOf]; omega
    · obtain rfl : k = n := by omega
      go_wp2_with fail
      go_ret
      exact ⟨_, rfl, HSt.out.row, Nat.le_succ _, HSt.out.bel⟩
end Go.Proofs.YtnnfiicmplkakaaGreatDoor
namespace Go.Proofs.YtnnfiicmplkakaaGreatDoor
open Go.RowKit Go.Shelf

def takeW (xs : List Nat) : Nat → List Nat
  | 0 => zeroWs
  | k + 1 => if byteBit xs k then setB (takeW xs k) k else takeW xs k
theorem takeW_ok {n : Nat} (xs : List Nat) (h0 : 1 ≤ n) (h1 : n ≤ 1024) : ∀ k, MapOk n (takeW xs k)
  | 0 => MapOk.zero h0 h1
  | k + 1 => by
    unfold takeW
    split
    · exact (takeW_ok xs h0 h1 k).setB k
    · exact takeW_ok xs h0 h1 k
theorem takeW_bit {n : Nat} (xs : List Nat) (h0 : 1 ≤ n) (h1 : n ≤ 1024) (hx : ∀ j, byteBit xs j = true → j < n) : ∀ k j, bitAt (takeW xs k) j = (decide (j < k) && byteBit xs j)
  | 0, j => by
    have e : zeroWs.getD (j / 64) 0 = 0 := by
      unfold zeroWs
      rw [List.getD_eq_getElem?_getD, List.getElem?_replicate]
      split <;> rfl
    unfold bitAt takeW
    rw [e, Nat.zero_testBit]
    simp
  | k + 1, j => by
    have ih := takeW_bit xs h0 h1 hx k j
    have hl := (takeW_ok xs h0 h1 k).len
    unfold takeW
    by_cases hb : byteBit xs k = true
    · have := hx k hb
      rw [if_pos hb, bitAt_setB _ _ (by omega), ih]
      by_cases hj : k = j
      · subst hj
        simp [hb]
      · have e : decide (j < k + 1) = decide (j < k) := by rw [Bool.eq_iff_iff, decide_eq_true_eq, decide_eq_true_eq]; omega
        simp [hj, e]
    · rw [if_neg hb, ih]
      by_cases hj : k = j
      · subst hj
        simp [hb]
      · have e : decide (j < k + 1) = decide (j < k) := by rw [Bool.eq_iff_iff, decide_eq_true_eq, decide_eq_true_eq]; omega
        rw [e]
theorem words_ext {n : Nat} {a b : List Nat} (ha : MapOk n a) (hb : MapOk n b) (h : ∀ j, bitAt a j = bitAt b j) : a = b := by
  refine List.ext_getElem (ha.len.trans hb.len.symm) fun q h1 h2 => ?_
  refine Nat.eq_of_testBit_eq fun r => ?_
  by_cases hr : r < 64
  · have := h (64 * q + r)
    unfold bitAt at this
    have e1 : (64 * q + r) / 64 = q := by omega
    have e2 : (64 * q + r) % 64 = r := by omega
    rw [e1, e2, List.getD_eq_getElem?_getD, List.getD_eq_getElem?_getD, List.getElem?_eq_getElem h1, List.getElem?_eq_getElem h2] at this
    exact this
  · have e64 : (18446744073709551616 : Nat) = 2 ^ 64 := by decide
    have big : ∀ x : Nat, x < 18446744073709551616 → x.testBit r = false := fun x hx => Nat.testBit_lt_two_pow (Nat.lt_of_lt_of_le (by rw [e64] at hx; exact hx) (Nat.pow_le_pow_right (by decide) (by omega)))
    rw [big _ (ha.lt _ (List.getElem_mem h1)), big _ (hb.lt _ (List.getElem_mem h2))]
/-- a map that has no page from n on -/
def Clean (n : Nat) (ws : List Nat) : Prop := ∀ j, bitAt ws j = true → j < n
theorem take_bytes {n : Nat} {ws : List Nat} (h : MapOk n ws) (hc : Clean n ws) : takeW (bytesTo ws n) 4096 = ws := by
  have hn := h.n1
  have hb : ∀ j, byteBit (bytesTo ws n) j = (decide (j < n) && bitAt ws j) := bytesTo_bit ws n (by omega)
  have hx : ∀ j, byteBit (bytesTo ws n) j = true → j < n := fun j hj => by
    rw [hb, Bool.and_eq_true, decide_eq_true_eq] at hj
    exact hj.1
  refine words_ext (takeW_ok _ h.n0 h.n1 _) h fun j => ?_
  rw [takeW_bit _ h.n0 h.n1 hx, hb]
  by_cases hj : bitAt ws j = true
  · have := hc j hj
    rw [hj]
    simp [this, show j < 4096 by omega]
  · have : bitAt ws j = false := by simpa using hj
    simp [this]
theorem bits_and_u8_nat (a b : Nat) (ha : a < 256) (hb : b < 256) : bits .and .u8 (a : Int) (b : Int) = ((a &&& b : Nat) : Int) :=
  (bits_nat .u8 8 (by decide) (fun n h0 h1 => wraps_u8 n h0 h1) a b ha hb).1
theorem test_bit8 (x k : Nat) (hx : x < 256) : (bits .and .u8 ((x : Int) / 2 ^ k) 1 == 0) = !x.testBit k := by
  have e1 : (x : Int) / 2 ^ k = ((x / 2 ^ k : Nat) : Int) := by
    rw [Int.natCast_ediv, Int.natCast_pow]
    rfl
  have h2 : x / 2 ^ k < 256 := Nat.lt_of_le_of_lt (Nat.div_le_self _ _) hx
  have e2 := bits_and_u8_nat (x / 2 ^ k) 1 h2 (by decide)
  have e3 : ((1 : Nat) : Int) = 1 := rfl
  rw [e1]
  rw [e3] at e2
  rw [e2, Nat.and_one_is_mod, Nat.testBit_eq_decide_div_mod_eq]
  rw [Bool.eq_iff_iff, beq_iff_eq, Bool.not_eq_true', decide_eq_false_iff_not]
  omega
theorem results_cell_row2 {fn : Func} {p u : Tmp} {ty : TypeId} (h : fn.results = #[.cell p ty, .tmp u]) (tmps : Array Value) (P : Program) (w : World) (g : Nat) (cs : List Value) (d : TypeDesc) (hp : tmps.getD p undef = .pointer (some ⟨g, 0, none⟩))
    (hr : w.rangeAt g 0 cs) (hu : P.underlying ty = some d) (hd : d.isRow = true) (hi : (P.info? ty).map (·.size) = some cs.length) : (results fn tmps).run P w = .ok (.tuple #[.agg cs.toArray, tmps.getD u undef]) w := by
  rw [results_cell_tmp h, hp]
  simp [asAddr, run_loadVar_mid w g 0 ty cs d hr hu hd hi, Result.andThen]
/-- while a page is read as a map -/
structure TkM (W wr : World) (b6 n : Nat) (ws : List Nat) : Prop where
  bel : Below W.heap.size W wr
  b4 : Whole wr W.heap.size 194 (mapC 0 zeroWs)
  box : Whole wr b6 194 (mapC n ws)
  gt : W.heap.size < b6
theorem TkM.below {W wr wr' : World} {b6 n : Nat} {ws : List Nat} (h : TkM W wr b6 n ws) (hb : Below wr.heap.size wr wr') : TkM W wr' b6 n ws :=
  ⟨h.bel.trans (hb.mono h.bel.size), h.b4.below hb h.b4.lt, h.box.below hb h.box.lt, h.gt⟩
theorem TkM.put {W wr : World} {b6 n : Nat} {ws ws' : List Nat} (h : TkM W wr b6 n ws) (hl : ws.length = 16) (hl' : ws'.length = 16) : TkM W (wr.setCells b6 0 (mapC n ws')) b6 n ws' := by
  have hg := h.gt
  refine ⟨h.bel.trans ((Kp.setCells b6 (mapC n ws') 0 wr).below h.bel.size (fun i hi => by cases hi; omega)), h.b4.kp (Kp.setCells b6 (mapC n ws') 0 wr) (fun e => by have : W.heap.size = b6 := e; omega), h.box.all (by rw [mapC_len hl, mapC_len hl']), hg⟩
def BTakeRes (n : Nat) (ws : List Nat) (W : World) (e : Ending) (W' : World) : Prop := e = .returned (.tuple #[mapV n ws, .int .i64 0]) ∧ Below W.heap.size W W'
set_option maxHeartbeats 2000000 in
set_option maxRecDepth 20000 in
theorem btake_any (n : Nat) (xs : List Nat) (A : Option Addr) (c : Nat) (W : World) (h0 : 1 ≤ n) (h1 : n ≤ 1024) (hl : xs.length = 512) (hx : ∀ x ∈ xs, x < 256) (hb : ∀ j, byteBit xs j = true → j < n) (hm : Mem W W.heap.size A (bv (nI xs))) :
    Calls Tryz.prog 163 #[.slice A 512 c, .int .i64 (n : Int)] W (BTakeRes n (takeW xs 4096) W) := by
  obtain ⟨bx, off, rfl, hbx, hc⟩ := byt_at hm (k := 0) (by rw [nI_len]; omega)
  have HC := hide (show ∀ j, j < 512 → W.cell? ⟨bx, off + j, none⟩ = some (.int .u8 ((xs.getD j 0 : Nat) : Int)) from fun j hj => by
    have hj' : j < (nI xs).length := by rw [nI_len]; omega
    rw [hc j hj']
    have := bvnI_get (xs := xs) (k := j) (by omega)
    rw [List.getElem?_eq_getElem (by rw [bv_len]; exact hj'), bv_get _ _ hj'] at this
    exact this)
  have HOk := fun k => hide (takeW_ok xs h0 h1 k)
  have HBit := hide hb
  have HLt := hide hx
  have HNew := fun w => hide (bnew_any n w h0 h1)
  have HSet := fun ws (hok : MapOk n ws) (i : Nat) (hi : i < n) w => hide (bset_any n ws i w hok hi)
  have HI := hide (show (Tryz.prog.info? 194).map (·.size) = some (mapC n zeroWs).toArray.size from mapInfo rfl)
  have HOne := hide (all_oneCell_toArray (mapC_one n zeroWs))
  have hz : (mapC 0 zeroWs).toArray.size = (mapC n zeroWs).toArray.size := rfl
  have HZ := hide hz
  clear hc hm hx hb hz
  unfold mapV at *
  go_enter Tryz.func163, Tryz.ntmps163
  go_upto_region 1 with fail
  have hb0 : Below W.heap.size W (W.alloc (.cells (mapC 0 zeroWs).toArray 194)) := (Below.refl _ _).alloc (Nat.le_refl _) _
  have hx0 : Whole (W.alloc (.cells (mapC 0 zeroWs).toArray 194)) _ _ _ := Whole.new W (mapC 0 zeroWs) 194
  change Code.wp _ _ _ _ (W.alloc (.cells (mapC 0 zeroWs).toArray 194))
  have HB0 := hide hb0
  have HX0 := hide hx0
  clear hb0 hx0
  generalize W.alloc (.cells (mapC 0 zeroWs).toArray 194) = w0 at *
  go_wp2_with fail
  refine (HNew w0).out.mono ?_
  rintro e w1 ⟨rfl, hb⟩
  have HB1 := hide (HB0.out.trans (hb.mono HB0.out.size))
  have HX1 := hide (HX0.out.below hb HX0.out.lt)
  clear hb HX0 HB0 HNew
  have hg1 := HX1.out.lt
  have hM2 : Whole (w1.alloc (.cells (mapC n zeroWs).toArray 194)) _ _ _ := Whole.new w1 (mapC n zeroWs) 194
  have hb2 : Below w1.heap.size w1 (w1.alloc (.cells (mapC n zeroWs).toArray 194)) := (Below.refl _ _).alloc (Nat.le_refl _) _
  have HS2 := hide (show TkM W (w1.alloc (.cells (mapC n zeroWs).toArray 194)) w1.heap.size n (takeW xs 0) from ⟨HB1.out.trans (hb2.mono HB1.out.size), HX1.out.below hb2 hg1, hM2, hg1⟩)
  clear hM2 hb2 HB1 HX1
  go_upto_region 2 with (refine wpList_store_new w1 rfl 194 _ _ rfl _ (mapC n zeroWs).toArray rfl rfl HI.out HZ.out HOne.out ?_)
  generalize w1.alloc (.cells (mapC n zeroWs).toArray 194) = w2 at *
  generalize w1.heap.size = b6 at *
  go_upto_region 7 with fail
  go_loopw [27] (fun x wr => ∃ k : Nat, k ≤ 512 ∧ x = .int .i64 k ∧ TkM W wr b6 n (takeW xs (8 * k))) (fun x _ => 512 - (intOf x).toNat)
  case atStart => exact ⟨0, Nat.zero_le _, rfl, HS2.out⟩
  case round =>
    obtain ⟨k, hk, rfl, hst⟩ := hrel
    have HSt := hide hst
    clear hst
    by_cases hlt : k < 512
    · have hcell : wr.cell? ⟨bx, off + k, none⟩ = _ := (HSt.out.bel.cell (p := ⟨bx, off + k, none⟩) hbx).trans (HC.out k hlt)
      have hx256 := getD_lt HLt.out (by decide) k
      have HTb := fun j => hide (test_bit8 (xs.getD k 0) j hx256)
      have HBb := fun (j : Nat) (hj : j < 8) => hide (show byteBit xs (8 * k + j) = (xs.getD k 0).testBit j by
        unfold byteBit
        rw [show (8 * k + j) / 8 = k by omega, show (8 * k + j) % 8 = j by omega])
      generalize xs.getD k 0 = x at *
      go_upto_region 10 with fail
      clear hcell hx256
      go_loopw [32] (fun y wi => ∃ j : Nat, j ≤ 8 ∧ y = .int .i64 j ∧ TkM W wi b6 n (takeW xs (8 * k + j))) (fun y _ => 8 - (intOf y).toNat)
      case atStart => exact ⟨0, Nat.zero_le _, rfl, HSt.out⟩
      case round =>
        obtain ⟨j, hj, rfl, hst⟩ := hrel
        have HSi := hide hst
        clear hst
        by_cases hj8 : j < 8
        · have HStep := hide (show takeW xs (8 * k + (j + 1)) = if byteBit xs (8 * k + j) then setB (takeW xs (8 * k + j)) (8 * k + j) else takeW xs (8 * k + j) from rfl)
          have hT := (HTb j).out
          have HBj := HBb j hj8
          by_cases hbit : x.testBit j = true
          · rw [hbit] at hT HBj
            rw [HBj.out, if_pos rfl] at HStep
            have hjn := HBit.out _ HBj.out
            have hat : IntKind.i64.wrap (8 * (k : Int)) = 8 * (k : Int) := IntWalk.i64_in _ (by omega)
            have hat2 : IntKind.i64.wrap (8 * (k : Int) + (j : Int)) = 8 * (k : Int) + (j : Int) := IntWalk.i64_in _ (by omega)
            have hge : decide ((n : Int) ≤ 8 * (k : Int) + (j : Int)) = false := by simp; omega
            have HR := hide HSi.out.box.range
            have HIn := hide (mapInfo (n := n) (HOk (8 * k + j)).out.len)
            have HEat := hide (show (8 : Int) * (k : Int) + (j : Int) = ((8 * k + j : Nat) : Int) by omega)
            go_wp2_with (refine wpList_load_mid rfl 194 _ rfl b6 0 rfl (mapC n (takeW xs (8 * k + j))) _ HR.out Tryz.underlying194 rfl HIn.out ?_)
            rw [HEat.out]
            refine (HSet _ (HOk (8 * k + j)).out (8 * k + j) hjn wr).out.mono ?_
            rintro e w3 ⟨rfl, hb⟩
            rw [← HStep.out]
            have HS3 := hide (HSi.out.below hb)
            have hput := (HSi.out.below hb).put (HOk (8 * k + j)).out.len (HOk (8 * k + (j + 1))).out.len
            have HPut := hide hput
            have hthr := (HSi.out.below hb).box.thr
            have e17 : (mapC n (takeW xs (8 * k + j))).length = (mapC n (takeW xs (8 * k + (j + 1)))).toArray.size := (mapC_len (HOk (8 * k + j)).out.len).trans (mapC_len (n := n) (HOk (8 * k + (j + 1))).out.len).symm
            rw [e17] at hthr
            have HThr := hide hthr
            have HI3 := hide (show (Tryz.prog.info? 194).map (·.size) = some (mapC n (takeW xs (8 * k + (j + 1)))).toArray.size from mapInfo (HOk (8 * k + (j + 1))).out.len)
            have HOne3 := hide (all_oneCell_toArray (mapC_one n (takeW xs (8 * k + (j + 1)))))
            clear hb hput hthr e17 HR HIn
            generalize hwn : takeW xs (8 * k + (j + 1)) = wn at *
            have HWn := hide hwn
            clear hwn
            go_wp2_with (refine wpList_store_mid rfl 194 _ _ rfl b6 0 (mapC n wn).toArray rfl rfl HThr.out HI3.out HOne3.out ?_)
            have hd5 : decide ((k : Int) < 512) = true := by simp; omega
            rw [hd5]
            refine ⟨⟨_, _, _, _, _, _, _, _, _, _, _, _, _, _, _, _, _, _, _, _, _, _, _, ⟨j + 1, by omega, rfl, by rw [HWn.out]; exact HPut.out⟩, rfl⟩, by simp [intOf]; omega⟩
          · have hbf : x.testBit j = false := by simpa using hbit
            rw [hbf] at hT HBj
            rw [HBj.out, if_neg (by simp)] at HStep
            have hat : IntKind.i64.wrap (8 * (k : Int)) = 8 * (k : Int) := IntWalk.i64_in _ (by omega)
            have hat2 : IntKind.i64.wrap (8 * (k : Int) + (j : Int)) = 8 * (k : Int) + (j : Int) := IntWalk.i64_in _ (by omega)
            go_wp2_with fail
            refine ⟨⟨j + 1, by omega, by go_num, by rw [HStep.out]; exact HSi.out⟩, by simp [intOf]; omega⟩
        · obtain rfl : j = 8 := by omega
          have e8 : 8 * k + 8 = 8 * (k + 1) := by omega
          rw [e8] at HSi
          go_wp2_with fail
          refine ⟨⟨k + 1, by omega, by go_num, HSi.out⟩, by simp [intOf]; omega⟩
    · obtain rfl : k = 512 := by omega
      have HIn := hide (mapInfo (n := n) (HOk (8 * 512)).out.len)
      have HR := hide HSt.out.box.range
      have hthr := HSt.out.b4.thr
      have e17 : (mapC 0 zeroWs).length = (mapC n (takeW xs (8 * 512))).toArray.size := (mapC_len (n := 0) (ws := zeroWs) rfl).trans (mapC_len (n := n) (HOk (8 * 512)).out.len).symm
      rw [e17] at hthr
      have HThr := hide hthr
      clear hthr e17
      have HI3 := hide (show (Tryz.prog.info? 194).map (·.size) = some (mapC n (takeW xs (8 * 512))).toArray.size from mapInfo (HOk (8 * 512)).out.len)
      have HOne3 := hide (all_oneCell_toArray (mapC_one n (takeW xs (8 * 512))))
      have hfin := HSt.out.b4.all (vs := mapC n (takeW xs (8 * 512))) (by rw [mapC_len (HOk (8 * 512)).out.len]; rfl)
      have hbf := HSt.out.bel.trans ((Kp.setCells W.heap.size (mapC n (takeW xs (8 * 512))) 0 wr).below HSt.out.bel.size (fun i hi => by cases hi; exact Nat.le_refl _))
      have HFin := hide hfin
      have HBf := hide hbf
      clear hfin hbf
      have e4096 : 8 * 512 = 4096 := by decide
      rw [e4096] at *
      generalize htk : takeW xs 4096 = wn at *
      have HTk := hide htk
      clear htk
      go_wp2_with (first | (refine wpList_load_mid rfl 194 _ rfl b6 0 rfl (mapC n wn) _ HR.out Tryz.underlying194 rfl HIn.out ?_) | (refine wpList_store_mid rfl 194 _ _ rfl W.heap.size 0 (mapC n wn).toArray rfl rfl HThr.out HI3.out HOne3.out ?_))
      have hI17 : (Tryz.prog.info? 194).map (·.size) = some (mapC n wn).length := HI3.out
      exact bodyPost_ret (results_cell_row2 Tryz.results163 _ _ _ W.heap.size _ _ rfl HFin.out.range Tryz.underlying194 rfl hI17) rfl ⟨rfl, HBf.out⟩
end Go.Proofs.YtnnfiicmplkakaaGreatDoor
namespace Go.Proofs.YtnnfiicmplkakaaGreatDoor
open Go.RowKit Go.Shelf

theorem not64 (x : Nat) (hx : x < 18446744073709551616) : bits .xor .u64 IntKind.u64.max (x : Int) = ((18446744073709551615 - x : Nat) : Int) := by
  have e0 : IntKind.u64.max = ((18446744073709551615 : Nat) : Int) := rfl
  rw [e0, bits_xor_u64_nat _ _ (by decide) hx]
  have h1 := BitVec.toNat_xor (BitVec.allOnes 64) (BitVec.ofNat 64 x)
  have h2 : BitVec.allOnes 64 ^^^ BitVec.ofNat 64 x = ~~~ BitVec.ofNat 64 x := by
    ext j hj
    rw [BitVec.getElem_xor, BitVec.getElem_allOnes, BitVec.getElem_not, Bool.true_xor]
  have h3 : (BitVec.ofNat 64 x).toNat = x := by rw [BitVec.toNat_ofNat]; exact Nat.mod_eq_of_lt (by omega)
  rw [h2, BitVec.toNat_not, h3, BitVec.toNat_allOnes] at h1
  have e64 : 2 ^ 64 = 18446744073709551616 := by decide
  rw [e64] at h1
  have e65 : 18446744073709551616 - 1 = 18446744073709551615 := by decide
  rw [e65] at h1
  rw [← h1]
theorem words_len {ws : List Nat} : (wordsV ws).length = ws.length := by simp [wordsV]
theorem arr16Info : (Tryz.prog.info? 192).map (·.size) = some 16 := by kernel_rfl
theorem idx0 (x : Nat) (xs : List Nat) (h : (x :: xs).length = 16) (w : World) : (Instr.index 192 (.agg (wordsV (x :: xs)).toArray) (.int .i64 0)).run Tryz.prog w = .ok (.int .u64 (x : Int)) w := by
  obtain ⟨a0, a1, a2, a3, a4, a5, a6, a7, a8, a9, a10, a11, a12, a13, a14, a15, e⟩ := len16 h
  rw [e]
  cases e
  have hu : Tryz.prog.underlying 192 = some (.array 16 66) := by kernel_rfl
  have hi : (Tryz.prog.info? 66).map (·.size) = some 1 := by kernel_rfl
  obtain ⟨i1, hi1, hi2⟩ := Option.map_eq_some_iff.1 hi
  unfold wordsV
  simp only [List.map_cons, List.map_nil]
  simp [Instr.index, run_underlying hu, asIntOf, go_sem, sizeOf, typeInfo, hi1, hi2]
set_option maxHeartbeats 2000000 in
set_option maxRecDepth 20000 in
theorem bfind_any (n x t : Nat) (xs : List Nat) (W : World) (h : MapOk n (x :: xs)) (hx : x < 18446744073709551615) (hct : Lib.ctz 64 (18446744073709551615 - x) = t) (ht : t < n) (hT : TabAt 1 Lib.deBruijn64tab W) :
    Calls Tryz.prog 107 #[mapV n (x :: xs)] W fun e w' => e = .returned (.tuple #[.int .i64 (t : Int), .bool true]) ∧ Below W.heap.size W w' := by
  have hTb : ∀ w, Below W.heap.size W w → TabAt 1 Lib.deBruijn64tab w := fun w hb j hj => by
    have h1 := hT j hj
    have := World.block_lt_of_cell? W _ (by rw [h1])
    exact (hb.cell (p := ⟨1, j, none⟩) this).trans h1
  have HTz := fun w (hb : Below W.heap.size W w) => hide (Any7.bits_TrailingZeros64 (P := Tryz.prog) Tryz.lays29 (18446744073709551615 - x) (by omega) w (fun _ => hTb w hb))
  rw [hct] at HTz
  have HOn := fun w' => hide (on_any n (x :: xs) (t : Int) w' h.len)
  have hon : decide (0 ≤ (t : Int) ∧ (t : Int) < (n : Int)) = true := by simp; omega
  rw [hon] at HOn
  have hx2 := Whole.new W (mapC n (x :: xs)) 194
  have hb : Below W.heap.size W (W.alloc (.cells (mapC n (x :: xs)).toArray 194)) := (Below.refl _ _).alloc (Nat.le_refl _) _
  have HIn := hide (mapInfo (n := n) h.len)
  have hln := h.len
  have hn1 := h.n1
  have HI9 := hide (show (Tryz.prog.info? 192).map (·.size) = some (wordsV (x :: xs)).length from by
    rw [words_len, hln]
    exact arr16Info)
  change Whole (W.alloc (.cells (mapC n (x :: xs)).toArray 194)) _ _ _ at hx2
  have HX := hide hx2
  have HB := hide hb
  have HR9 := hide (show (W.alloc (.cells (mapC n (x :: xs)).toArray 194)).rangeAt W.heap.size 1 (wordsV (x :: xs)) from fun j v hv => by
    rw [hx2.cell (1 + j), mapC, Nat.add_comm 1 j, List.getElem?_cons_succ]
    exact hv)
  have HXx := hide hx
  have hidx := fun w => idx0 x xs hln w
  clear hx2 hb hon h hT hTb hct hx
  unfold mapV at *
  go_enter Tryz.func107, Tryz.ntmps107
  go_upto_region 1 with fail
  change Code.wp _ _ _ _ (W.alloc (.cells (mapC n (x :: xs)).toArray 194))
  generalize W.alloc (.cells (mapC n (x :: xs)).toArray 194) = w1 at *
  have HR := hide HX.out.range
  go_upto_region 2 with (refine wpList_load_mid rfl 192 _ rfl W.heap.size 1 rfl (wordsV (x :: xs)) _ HR9.out Tryz.underlying192 rfl HI9.out ?_)
  go_loopw [9] (fun y wr => y = .int .i64 0 ∧ wr = w1) (fun _ _ => 0)
  case atStart => exact ⟨rfl, rfl⟩
  case round =>
    obtain ⟨rfl, rfl⟩ := hrel
    go_wp2_with fail
    rw [not64 x (by have := HXx.out; omega)]
    refine (HTz wr HB.out).out.mono ?_
    rintro e w2 ⟨rfl, rfl⟩
    have hne : ¬ (x : Int) = 18446744073709551615 := by have := HXx.out; omega
    obtain ⟨a0, a1, a2, a3, a4, a5, a6, a7, a8, a9, a10, a11, a12, a13, a14, a15, e⟩ := len16 hln
    cases e
    have c0 : w2.cell? ⟨W.heap.size, 0, none⟩ = some (.int .i64 (n : Int)) := HX.out.cell 0
    have c1 : w2.cell? ⟨W.heap.size, 1, none⟩ = some (.int .u64 (x : Int)) := HX.out.cell 1
    have c2 : w2.cell? ⟨W.heap.size, 2, none⟩ = some (.int .u64 (a1 : Int)) := HX.out.cell 2
    have c3 : w2.cell? ⟨W.heap.size, 3, none⟩ = some (.int .u64 (a2 : Int)) := HX.out.cell 3
    have c4 : w2.cell? ⟨W.heap.size, 4, none⟩ = some (.int .u64 (a3 : Int)) := HX.out.cell 4
    have c5 : w2.cell? ⟨W.heap.size, 5, none⟩ = some (.int .u64 (a4 : Int)) := HX.out.cell 5
    have c6 : w2.cell? ⟨W.heap.size, 6, none⟩ = some (.int .u64 (a5 : Int)) := HX.out.cell 6
    have c7 : w2.cell? ⟨W.heap.size, 7, none⟩ = some (.int .u64 (a6 : Int)) := HX.out.cell 7
    have c8 : w2.cell? ⟨W.heap.size, 8, none⟩ = some (.int .u64 (a7 : Int)) := HX.out.cell 8
    have c9 : w2.cell? ⟨W.heap.size, 9, none⟩ = some (.int .u64 (a8 : Int)) := HX.out.cell 9
    have c10 : w2.cell? ⟨W.heap.size, 10, none⟩ = some (.int .u64 (a9 : Int)) := HX.out.cell 10
    have c11 : w2.cell? ⟨W.heap.size, 11, none⟩ = some (.int .u64 (a10 : Int)) := HX.out.cell 11
    have c12 : w2.cell? ⟨W.heap.size, 12, none⟩ = some (.int .u64 (a11 : Int)) := HX.out.cell 12
    have c13 : w2.cell? ⟨W.heap.size, 13, none⟩ = some (.int .u64 (a12 : Int)) := HX.out.cell 13
    have c14 : w2.cell? ⟨W.heap.size, 14, none⟩ = some (.int .u64 (a13 : Int)) := HX.out.cell 14
    have c15 : w2.cell? ⟨W.heap.size, 15, none⟩ = some (.int .u64 (a14 : Int)) := HX.out.cell 15
    have c16 : w2.cell? ⟨W.heap.size, 16, none⟩ = some (.int .u64 (a15 : Int)) := HX.out.cell 16
    have ht64 : IntKind.i64.wrap (t : Int) = (t : Int) := IntWalk.i64_in _ (by omega)
    go_wp2_with fail
    clear c0 c1 c2 c3 c4 c5 c6 c7 c8 c9 c10 c11 c12 c13 c14 c15 c16
    refine (HOn w2).out.mono ?_
    rintro e w3 ⟨rfl, hb⟩
    have HB3 := hide (HB.out.trans (hb.mono HB.out.size))
    clear hb
    go_wp2_with fail
    exact bodyPost_ret (v := .tuple #[.int .i64 (t : Int), .bool true]) (by simp [results, Tryz.results107, go_sem]) rfl ⟨rfl, HB3.out⟩
end Go.Proofs.YtnnfiicmplkakaaGreatDoor
namespace Go.Proofs.YtnnfiicmplkakaaGreatDoor
open Go.RowKit Go.Shelf

def numS (k : Nat) : ByteArray := strOfNums (Pl.be 2 (k : Int))
set_option maxHeartbeats 1000000 in
theorem number_any (k : Nat) (W : World) (hk : k < 65536) : Calls Tryz.prog 42 #[.int .i64 (k : Int)] W fun e W' => e = .returned (.string (numS k)) ∧ Below W.heap.size W W' := by
  have hw : IntKind.u64.wrap (k : Int) = (k : Int) := by rw [IntKind.wrap_u64]; omega
  go_enter Tryz.func42, Tryz.ntmps42
  go_wp2_with fail
  refine (new_any W).mono ?_
  rintro e w1 ⟨rfl, rfl⟩
  have HP0 := hide (PkB.start (Below.refl W.heap.size W))
  generalize W.alloc (.cells #[.slice none 0 0, .int .i64 0] 213) = w1 at *
  go_wp2_with fail
  refine (HP0.out.put 2 (k : Int) (by decide) (.inr (.inl rfl)) (by omega) (by omega)).mono ?_
  rintro e w2 ⟨v, rfl, hp⟩
  have HP2 := hide hp
  clear hp HP0
  go_wp2_with fail
  have hxs : [] ++ Pl.be 2 (k : Int) = Pl.be 2 (k : Int) := rfl
  have hl : (Pl.be 2 (k : Int)).length = 2 := Pl.be_len _ _
  rw [hxs] at HP2
  have HNum := hide (show numS k = strOfNums (Pl.be 2 (k : Int)) from rfl)
  generalize Pl.be 2 (k : Int) = xs at *
  refine (HP2.out.bytes (by omega)).mono ?_
  rintro e w3 ⟨A, c, rfl, hp, ho⟩
  have HB3 := hide hp.bel
  have hcv := conv_str (owns_mem ho) c
  clear hp ho HP2 hxs hl
  go_wp2_with fail
  go_ret
  exact ⟨by rw [HNum.out]; rfl, HB3.out⟩
set_option maxHeartbeats 400000 in
theorem many_any (k : Int) (w : World) : Calls Tryz.prog 40 #[.int .i64 k] w fun e w' => e = .returned (.bool (decide (3 ≤ k ∧ k ≤ 200))) ∧ w = w' := by
  by_cases h0 : 3 ≤ k
  · have h2 : decide (3 ≤ k ∧ k ≤ 200) = decide (k ≤ 200) := by simp [h0]
    rw [h2]
    generalize hd : decide (k ≤ 200) = b
    go_enter Tryz.func40, Tryz.ntmps40
    go_wp2
    go_ret
    exact ⟨rfl, rfl⟩
  · have h2 : decide (3 ≤ k ∧ k ≤ 200) = false := by simp [h0]
    rw [h2]
    go_enter Tryz.func40, Tryz.ntmps40
    go_wp2
    go_ret
    exact ⟨rfl, rfl⟩
set_option maxHeartbeats 400000 in
theorem sector_any (a b : Nat) (w : World) (ha : a ≤ 100000) (hb : b ≤ 100000) : Calls Tryz.prog 72 #[.int .i64 (a : Int), .int .i64 (b : Int)] w fun e w' => e = .returned (.int .i64 ((2 + a + b : Nat) : Int)) ∧ w = w' := by
  have h1 : IntKind.i64.wrap (2 + (a : Int)) = 2 + (a : Int) := IntWalk.i64_in _ (by omega)
  have h2 : IntKind.i64.wrap (2 + (a : Int) + (b : Int)) = ((2 + a + b : Nat) : Int) := by rw [IntWalk.i64_in _ (by omega)]; omega
  have HE := hide (show (2 : Int) + (a : Int) + (b : Int) = ((2 + a + b : Nat) : Int) by omega)
  clear h2
  have h2 : IntKind.i64.wrap (2 + (a : Int) + (b : Int)) = 2 + (a : Int) + (b : Int) := IntWalk.i64_in _ (by omega)
  go_enter Tryz.func72, Tryz.ntmps72
  go_wp2
  rw [HE.out]
  go_ret
  exact ⟨rfl, rfl⟩
end Go.Proofs.YtnnfiicmplkakaaGreatDoor
namespace Go.Proofs.YtnnfiicmplkakaaGreatDoor
open Go.RowKit Go.Shelf

def mapB (P : Nat) : List Int := nI (bytesTo (setB zeroWs 0) P)
def noteS (P : Nat) (nt : ByteArray) : ByteArray := strOfNums (Pl.be 2 (P : Int) ++ bs nt)
def pageC (c : Nat → List Int) (L P : Nat) : Nat → (Nat → List Int)
  | 0 => c
  | _ + 1 => upd c (2 + L) (mapB P)
def fmtC (c : Nat → List Int) (L P : Nat) (nt : ByteArray) : Nat → List Int := upd (upd c (2 + L) (mapB P)) 1 (freshHd L (noteS P nt)).bytes
def pageX (P : Nat) : Nat → List Int
  | 0 => mapB P
  | _ + 1 => nI (List.replicate 512 0)
theorem pageX_len (P : Nat) : ∀ k, (pageX P k).length = 512
  | 0 => by rw [pageX, mapB, nI_len, bytesTo_len]
  | _ + 1 => by rw [pageX, nI_len, List.length_replicate]
theorem pageX_byt (P : Nat) : ∀ k, Byt (pageX P k)
  | 0 => nI_byt (bytesTo_lt _ _)
  | _ + 1 => nI_byt (fun x hx => by have := List.eq_of_mem_replicate hx; omega)
theorem nI_zeros : nI (List.replicate 512 0) = zeros 512 := by rw [nI, List.map_replicate]; rfl
theorem pageC_step (c : Nat → List Int) (hc : ∀ i, c i = zeros 512) (L P k : Nat) : upd (pageC c L P k) (2 + L + k) (pageX P k) = pageC c L P (k + 1) := by
  cases k with
  | zero => rfl
  | succ k =>
    funext j
    show (if j = 2 + L + (k + 1) then nI (List.replicate 512 0) else upd c (2 + L) (mapB P) j) = upd c (2 + L) (mapB P) j
    split
    · rename_i h
      subst h
      unfold upd
      rw [if_neg (by omega), hc, nI_zeros]
    · rfl
theorem make512 (w : World) : (Instr.makeSlice 62 (.int .i64 512) (.int .i64 512)).run Tryz.prog w = .ok (.slice (some ⟨w.heap.size, 0, none⟩) 512 512) (w.alloc (.cells (bv (nI (List.replicate 512 0))).toArray 5)) := by
  obtain ⟨i0, hi0, hz0, hz1, hz2⟩ := info_parts infoU8
  have hmk := run_make (P := Tryz.prog) w 62 5 i0 _ Tryz.underlying62 hi0 hz0 .i64 .i64 512 512 (by omega) (Int.le_refl _) (by rw [hz2]; decide) (by decide)
  rw [hz1] at hmk
  have hcs : madeCells (Value.int .u8 0).cells 512 = (bv (nI (List.replicate 512 0))).toArray := made_n 512
  rw [← hcs]
  exact hmk
/-- while the pages are written -/
structure PfSt (W wr : World) (bd n : Nat) (F : Nat → Prop) (c : Nat → List Int) (m L P k : Nat) (x : Value) : Prop where
  ex : ∃ Fk b, x = .slice (some ⟨b, 0, none⟩) 512 512 ∧ Whole wr b 5 (bv (pageX P k)) ∧ ¬ Fk b ∧ Ds wr bd n Fk (pageC c L P k) (m + k) ∧ Kp F W wr ∧ ∀ j, Fk j → F j ∨ W.heap.size ≤ j
set_option maxHeartbeats 2000000 in
set_option maxRecDepth 20000 in
theorem pformat_any (bd n : Nat) (F : Nat → Prop) (c : Nat → List Int) (m L P : Nat) (nt : ByteArray) (W : World) (h : Ds W bd n F c m) (hm : m ≤ 10) (hL : 96 ≤ L ∧ L ≤ 512) (hP : 64 ≤ P ∧ P ≤ 1024) (hnt : nt.size ≤ 40) (hn : 2 + L + P ≤ n) (hc : ∀ i, c i = zeros 512) (ht : Tab W) (hF1 : ¬ F 0) :
    Calls Tryz.prog 64 #[.pointer (some ⟨bd, 0, none⟩), .int .i64 (L : Int), .int .i64 (P : Int), .string nt] W (DsRes bd n F (fmtC c L P nt) 0 W) := by
  have HD := hide h
  have HT := hide ht
  have HCz := hide hc
  have HNew := hide (bnew_any P W (by omega) (by omega))
  have HSet := fun w => hide (show Calls Tryz.prog 96 #[mapV P zeroWs, .int .i64 0, .bool true] w _ from bset_any P zeroWs 0 w (MapOk.zero (by omega) hP.2) (by omega))
  have HByt := fun w => hide (bbytes_any P (setB zeroWs 0) w ((MapOk.zero (by omega) hP.2).setB 0))
  have HSec := fun (i : Nat) w => fun (hi : i ≤ 100000) => hide (sector_any L i w (by omega) hi)
  have HLen := fun (W' : World) (hb : Below W.heap.size W W') => hide (show Calls Tryz.prog 21 #[.pointer (some ⟨bd, 0, none⟩)] W' (fun e w' => e = .returned (.int .i64 n) ∧ W' = w') from by
    obtain ⟨A0, k0, hln⟩ := (h.below hb).len
    exact dlen_any bd n k0 A0 W' hln)
  have HI := hide (show (Tryz.prog.info? 194).map (·.size) = some (mapC P zeroWs).toArray.size from mapInfo rfl)
  have HIn := hide (mapInfo (n := P) (ws := zeroWs) rfl)
  have HOne := hide (all_oneCell_toArray (mapC_one P zeroWs))
  have HZ := hide (show (mapC 0 zeroWs).toArray.size = (mapC P zeroWs).toArray.size from rfl)
  clear h ht hc
  unfold mapV at *
  go_enter Tryz.func64, Tryz.ntmps64
  go_wp2_with fail
  refine HNew.out.mono ?_
  rintro e w1 ⟨rfl, hb⟩
  have HB1 := hide hb
  have hM2 : Whole (w1.alloc (.cells (mapC P zeroWs).toArray 194)) _ _ _ := Whole.new w1 (mapC P zeroWs) 194
  have hb2 : Below w1.heap.size w1 (w1.alloc (.cells (mapC P zeroWs).toArray 194)) := (Below.refl _ _).alloc (Nat.le_refl _) _
  have HB2 := hide (HB1.out.trans (hb2.mono HB1.out.size))
  have HM2 := hide hM2
  clear hM2 hb2 HNew hb
  go_upto_region 2 with (refine wpList_store_new w1 rfl 194 _ _ rfl _ (mapC P zeroWs).toArray rfl rfl HI.out HZ.out HOne.out ?_)
  generalize w1.alloc (.cells (mapC P zeroWs).toArray 194) = w2 at *
  generalize w1.heap.size = b9 at *
  have d1 : decide ((P : Int) < 64) = false := by simp; omega
  have d2 : decide ((40 : Int) < (nt.size : Int)) = false := by simp; omega
  have d3 : decide ((L : Int) < 96) = false := by simp; omega
  have d4 : decide ((512 : Int) < (L : Int)) = false := by simp; omega
  have d5 : decide ((n : Int) < ((2 + L + P : Nat) : Int)) = false := by simp; omega
  go_upto_region 4 with fail
  go_upto_region 6 with (first | (go_at_call 72; refine (HSec P w2 (by omega)).out.mono ?_; rintro e w' ⟨rfl, rfl⟩) | (go_at_call 21; refine (HLen _ HB2.out).out.mono ?_; rintro e w' ⟨rfl, rfl⟩))
  have HR2 := hide HM2.out.range
  go_wp2_with (refine wpList_load_mid rfl 194 _ rfl b9 0 rfl (mapC P zeroWs) _ HR2.out Tryz.underlying194 rfl HIn.out ?_)
  refine (HSet w2).out.mono ?_
  rintro e w3 ⟨rfl, hb⟩
  have HB3 := hide (HB2.out.trans (hb.mono HB2.out.size))
  clear hb
  go_wp2_with fail
  refine (HByt w3).out.mono ?_
  rintro e w4 ⟨b, rfl, hwb, hge, hb⟩
  have HB4 := hide (HB3.out.trans (hb.mono HB3.out.size))
  have hszb : W.heap.size ≤ b := Nat.le_trans HB3.out.size hge
  have HS0 := hide (show PfSt W w4 bd n F c m L P 0 (.slice (some ⟨b, 0, none⟩) 512 512) from ⟨F, b, rfl, hwb, fun hf => by have := HD.out.lt hf; omega, HD.out.below HB4.out, Kp.of_below HB4.out, fun j hj => .inl hj⟩)
  clear hb hwb hge HB2 HB3 HSet HByt HLen HR2 HM2 d1 d2 d3 d4 d5
  go_upto_region 8 with fail
  go_loopw [11, 57] (fun x y wr => ∃ k : Nat, k ≤ P ∧ y = .int .i64 k ∧ PfSt W wr bd n F c m L P k x) (fun _ y _ => P - (intOf y).toNat)
  case atStart => exact ⟨0, Nat.zero_le _, rfl, HS0.out⟩
  case round =>
    obtain ⟨k, hk, rfl, ⟨Fk, b5, rfl, hw, hnb, hds, hkp, hsub⟩⟩ := hrel
    by_cases hlt : k < P
    · have HWr := hide (hds.write (by omega) (i := 2 + L + k) (by omega) (some ⟨b5, 0, none⟩) 512 (pageX P k) hw.mem (pageX_len P k) (pageX_byt P k) (fun b off e hf => by cases e; exact hnb hf))
      have HKp := hide hkp
      have HSub := hide hsub
      clear hw hnb hds hkp hsub
      go_wp2_with (go_at_call 72; refine (HSec k _ (by omega)).out.mono ?_; rintro e w' ⟨rfl, rfl⟩)
      refine HWr.out.mono ?_
      rintro e w5 ⟨rfl, F', g1, g2, g3⟩
      have hstep := pageC_step c HCz.out L P k
      rw [hstep] at g1
      have hmk := make512 w5
      have hb6 : Below w5.heap.size w5 (w5.alloc (.cells (bv (pageX P (k + 1))).toArray 5)) := (Below.refl _ _).alloc (Nat.le_refl _) _
      have hw6 : Whole (w5.alloc (.cells (bv (pageX P (k + 1))).toArray 5)) w5.heap.size _ _ := Whole.new w5 (bv (pageX P (k + 1))) 5
      have hs6 : PfSt W (w5.alloc (.cells (bv (pageX P (k + 1))).toArray 5)) bd n F c m L P (k + 1) (.slice (some ⟨w5.heap.size, 0, none⟩) 512 512) :=
        ⟨F', w5.heap.size, rfl, hw6, fun hf => by have := g1.lt hf; omega, g1.below hb6, (HKp.out.trans g2 HSub.out).same (Kp.of_below hb6), fun j hj => (g3 j hj).elim (HSub.out j) (fun hh => .inr (Nat.le_trans HKp.out.size hh))⟩
      have HS6 := hide hs6
      clear g1 g2 g3 hstep hb6 hw6 hs6 HKp HSub HWr
      go_wp2_with fail
      go_roundw
      case rel => exact ⟨k + 1, by omega, by go_num, HS6.out⟩
      case measure => simp [intOf]; omega
    · obtain rfl : k = P := by omega
      have HD5 := hide hds
      have HK5 := hide hkp
      have HF5 := hide hsub
      clear hw hnb hds hkp hsub
      have hpc : pageC c L k k = upd c (2 + L) (mapB k) := by
        obtain ⟨k', rfl⟩ : ∃ k', k = k' + 1 := ⟨k - 1, by omega⟩
        rfl
      rw [hpc] at HD5
      go_wp2_with fail
      refine (HD5.out.flush (by omega)).mono ?_
      rintro e w6 ⟨rfl, F6, g1, g2, g3⟩
      have HD6 := hide g1
      have HK6 := hide (HK5.out.trans g2 HF5.out)
      have HF6 := hide (show ∀ j, F6 j → F j ∨ W.heap.size ≤ j from fun j hj => (g3 j hj).elim (HF5.out j) (fun hh => .inr (Nat.le_trans HK5.out.size hh)))
      clear g1 g2 g3 HD5 HK5 HF5 hpc
      go_wp2_with fail
      refine (new_any w6).mono ?_
      rintro e w7 ⟨rfl, rfl⟩
      have HP0 := hide (PkB.start (Below.refl w6.heap.size w6))
      generalize w6.alloc (.cells #[.slice none 0 0, .int .i64 0] 213) = w7 at *
      have hw64 : IntKind.u64.wrap (k : Int) = (k : Int) := by rw [IntKind.wrap_u64]; omega
      go_wp2_with fail
      refine (HP0.out.put 2 (k : Int) (by decide) (.inr (.inl rfl)) (by omega) (by omega)).mono ?_
      rintro e w8 ⟨v, rfl, hp⟩
      have HP2 := hide hp
      clear hp HP0
      go_wp2_with fail
      have hl2 : ([] ++ Pl.be 2 (k : Int)).length = 2 := by simp [Pl.be_len]
      refine (HP2.out.text nt (by rw [hl2]; omega)).mono ?_
      rintro e w9 ⟨v2, rfl, hp⟩
      have hxs : [] ++ Pl.be 2 (k : Int) ++ bs nt = Pl.be 2 (k : Int) ++ bs nt := rfl
      rw [hxs] at hp
      have HP3 := hide hp
      have hl3 : (Pl.be 2 (k : Int) ++ bs nt).length = 2 + nt.size := by rw [List.length_append, Pl.be_len, bs_len]
      have HNum := hide (show noteS k nt = strOfNums (Pl.be 2 (k : Int) ++ bs nt) from rfl)
      have hsz : (noteS k nt).size ≤ 64 := by rw [noteS, strOfNums_size, hl3]; omega
      clear hp HP2 hl2 hxs
      have HWf := fun W' (hd : Ds W' bd n F6 (upd c (2 + L) (mapB k)) 0) (ht : Tab W') => hide (walformat_any bd n F6 (upd c (2 + L) (mapB k)) 0 L (noteS k nt) W' hd (by decide) hL.1 hL.2 (by omega) hsz
        (fun i hi => by
          have : upd c (2 + L) (mapB k) i = zeros 512 := by unfold upd; rw [if_neg (by omega)]; exact HCz.out i
          rw [this]; exact hd_zeros)
        (fun i hi => by
          have : upd c (2 + L) (mapB k) (2 + i) = zeros 512 := by unfold upd; rw [if_neg (by omega)]; exact HCz.out _
          rw [this]; exact sh_zeros) ht)
      have HFmt := hide (show fmtC c L k nt = upd (upd c (2 + L) (mapB k)) 1 (freshHd L (noteS k nt)).bytes from rfl)
      rw [HNum.out] at HWf
      generalize Pl.be 2 (k : Int) ++ bs nt = xs at *
      go_wp2_with fail
      refine (HP3.out.bytes (by omega)).mono ?_
      rintro e w10 ⟨A, cc, rfl, hp, ho⟩
      have HB10 := hide hp.bel
      have hcv := conv_str (owns_mem ho) cc
      clear hp ho HP3 hl3
      go_wp2_with fail
      have htw : Tab w10 := (HT.out.kp HK6.out hF1).below HB10.out
      refine (HWf w10 (HD6.out.below HB10.out) htw).out.mono ?_
      rintro e w11 hr
      have HR := hide (DsRes.then_ (HK6.out.same (Kp.of_below HB10.out)) HF6.out hr)
      obtain ⟨rfl, _⟩ := hr
      rw [← HNum.out, ← HFmt.out] at HR
      go_wp2_with fail
      go_ret
      exact HR.out
end Go.Proofs.YtnnfiicmplkakaaGreatDoor
namespace Go.Proofs.YtnnfiicmplkakaaGreatDoor
open Go.RowKit Go.Shelf

/-- a page as a map's element -/
def byteOf : Value → Option Int
  | .int .u8 x => some x
  | _ => none
def pgR : Value → Option (DataW Unit × List MemPlace)
  | .agg cs => if cs.size = 512 then (cs.toList.mapM byteOf).map fun xs => (.agg (xs.map fun x => .lit (.int .u8 x)), []) else none
  | _ => none
def pgV (xs : List Int) : Value := .agg (bv xs).toArray
def pgD (xs : List Int) : DataW Unit := .agg (xs.map fun x => .lit (.int .u8 x))
theorem mapM_bv (xs : List Int) : (bv xs).mapM byteOf = some xs := by
  induction xs with
  | nil => rfl
  | cons x xs ih =>
    show (List.mapM byteOf (.int .u8 x :: bv xs)) = _
    rw [List.mapM_cons, ih]
    rfl
theorem pgR_val (xs : List Int) (h : xs.length = 512) : pgR (pgV xs) = some (pgD xs, []) := by
  unfold pgR pgV
  simp only [List.size_toArray, bv_len, h, if_true, mapM_bv]
  rfl
theorem of_mapM : ∀ (cs : List Value) (xs : List Int), cs.mapM byteOf = some xs → cs = bv xs
  | [], xs, h => by
    rw [List.mapM_nil] at h
    cases h
    rfl
  | c :: cs, xs, h => by
    rw [List.mapM_cons] at h
    cases hc : byteOf c with
    | none => rw [hc] at h; cases h
    | some x =>
      cases hs : cs.mapM byteOf with
      | none => rw [hc, hs] at h; cases h
      | some ys =>
        rw [hc, hs] at h
        cases h
        have e : c = .int .u8 x := by
          unfold byteOf at hc
          split at hc
          · cases hc; rfl
          · cases hc
        rw [e, of_mapM cs ys hs]
        rfl
theorem pgR_inv (v : Value) (y : DataW Unit × List MemPlace) (h : pgR v = some y) : ∃ xs, v = pgV xs ∧ xs.length = 512 ∧ y = (pgD xs, []) := by
  unfold pgR at h
  split at h
  · rename_i cs
    split at h
    · rename_i hl
      cases hm : cs.toList.mapM byteOf with
      | none => rw [hm] at h; cases h
      | some xs =>
        rw [hm] at h
        cases h
        have e := of_mapM _ _ hm
        have e2 : cs = (bv xs).toArray := by rw [← e]
        refine ⟨xs, by rw [e2]; rfl, ?_, rfl⟩
        rw [e2, List.size_toArray, bv_len] at hl
        exact hl
    · cases h
  · cases h
/-- a page store that is not dead -/
structure PS (W : World) (bs bl bd n : Nat) (F : Nat → Prop) (c : Nat → List Int) (m : Nat) (h : Hd) (at_ next used : Int) (P : Nat) (note : ByteArray) (bk bt bc q : Nat) (Dk Dt Dc : DataW Unit) : Prop where
  st : Whole W bs 160 [.pointer (some ⟨bl, 0, none⟩), .pointer (some ⟨bd, 0, none⟩), .int .i64 (P : Int), .string note, .map (some bk), .map (some bt), .map (some bc), .bool false]
  ld : LD W bl bd n F c m h at_ next used
  kept : W.ownsMap Tryz.prog 3 pgR bk q Dk
  dirty : W.ownsMap Tryz.prog 3 (plainElem Tryz.prog 4) bt q Dt
  change : W.ownsMap Tryz.prog 3 pgR bc q Dc
  nf : ¬ F bs ∧ ¬ F bk ∧ ¬ F bt ∧ ¬ F bc
  nl : bs ≠ bl ∧ bk ≠ bl ∧ bt ≠ bl ∧ bc ≠ bl
  ns : bk ≠ bs ∧ bt ≠ bs ∧ bc ≠ bs
  nm : bk ≠ bt ∧ bk ≠ bc ∧ bt ≠ bc
theorem owns_lt {W : World} {k : TypeId} {R : Value → Option (DataW Unit × List MemPlace)} {b n : Nat} {D : DataW Unit} (h : W.ownsMap Tryz.prog k R b n D) : b < W.heap.size := by
  obtain ⟨es, clock, h1, _⟩ := h
  exact (Array.getElem?_eq_some_iff.1 h1).1
theorem owns_kp {W W' : World} {F : Nat → Prop} {k : TypeId} {R : Value → Option (DataW Unit × List MemPlace)} {b n : Nat} {D : DataW Unit} (h : W.ownsMap Tryz.prog k R b n D) (hk : Kp F W W') (hn : ¬ F b) : W'.ownsMap Tryz.prog k R b n D := by
  have hl := owns_lt h
  obtain ⟨es, clock, h1, h2⟩ := h
  exact ⟨es, clock, (hk.block b hl hn).trans h1, h2⟩
section
variable {W W' : World} {bs bl bd n : Nat} {F : Nat → Prop} {c : Nat → List Int} {m : Nat} {h : Hd} {at_ next used : Int} {P : Nat} {note : ByteArray} {bk bt bc q : Nat} {Dk Dt Dc : DataW Unit}
theorem PS.below (hp : PS W bs bl bd n F c m h at_ next used P note bk bt bc q Dk Dt Dc) (hb : Below W.heap.size W W') : PS W' bs bl bd n F c m h at_ next used P note bk bt bc q Dk Dt Dc :=
  ⟨hp.st.below hb hp.st.lt, hp.ld.below hb, owns_kp hp.kept (Kp.of_below (F := NoF) hb) (fun h => h.elim), owns_kp hp.dirty (Kp.of_below (F := NoF) hb) (fun h => h.elim), owns_kp hp.change (Kp.of_below (F := NoF) hb) (fun h => h.elim), hp.nf, hp.nl, hp.ns, hp.nm⟩
set_option maxHeartbeats 400000 in
theorem behind_any (hp : PS W bs bl bd n F c m h at_ next used P note bk bt bc q Dk Dt Dc) (hP : P ≤ 100000) (hs : h.sec ≤ 100000) : Calls Tryz.prog 46 #[.pointer (some ⟨bs, 0, none⟩)] W fun e w' => e = .returned (.int .i64 ((2 + h.sec + P : Nat) : Int)) ∧ ∃ k, w' = W.drewN k := by
  have c0 : W.cell? ⟨bs, 0, none⟩ = some (.pointer (some ⟨bl, 0, none⟩)) := hp.st.cell 0
  have c2 : W.cell? ⟨bs, 2, none⟩ = some (.int .i64 (P : Int)) := hp.st.cell 2
  have HS := fun w (hb : Below W.heap.size W w) => hide (lsec_any (hp.ld.lg.below hb))
  have HSc := fun w => hide (sector_any h.sec P w hs hP)
  clear hp
  go_enter Tryz.func46, Tryz.ntmps46
  go_upto_region 3 with fail
  go_quiet (first | (go_at_call 20; refine Calls.quiet_of_same ((HS _ (below_drewN (Below.refl _ _) _)).out.mono fun _ _ h => ⟨h.1, h.2.symm⟩)) | (go_at_call 72; refine Calls.quiet_of_same ((HSc _).out.mono fun _ _ h => ⟨h.1, h.2.symm⟩)))
  go_wp2_with fail
  go_ret
  exact ⟨rfl, _, rfl⟩
set_option maxHeartbeats 400000 in
theorem may_any (i : Nat) (hp : PS W bs bl bd n F c m h at_ next used P note bk bt bc q Dk Dt Dc) (hi : i < P) : Calls Tryz.prog 169 #[.pointer (some ⟨bs, 0, none⟩), .int .i64 (i : Int)] W fun e w' => e = .returned (.int .i64 0) ∧ W = w' := by
  have c2 : W.cell? ⟨bs, 2, none⟩ = some (.int .i64 (P : Int)) := hp.st.cell 2
  have c7 : W.cell? ⟨bs, 7, none⟩ = some (.bool false) := hp.st.cell 7
  have d1 : decide ((P : Int) ≤ (i : Int)) = false := by simp; omega
  clear hp
  go_enter Tryz.func169, Tryz.ntmps169
  go_wp2
  go_ret
  exact ⟨rfl, rfl⟩
end
end Go.Proofs.YtnnfiicmplkakaaGreatDoor
namespace Go.Proofs.YtnnfiicmplkakaaGreatDoor
open Go.RowKit Go.Shelf

set_option maxHeartbeats 1000000 in
theorem all2_any (f1 f2 : FuncId) (a1 a2 b1 b2 : Array Value) (bb : Nat) (W : World) (R1 R2 : World → Prop)
    (ef1 : ∀ args w, (callFunc f1 args).run Tryz.prog w = .ok (.enter f1 args) w) (ef2 : ∀ args w, (callFunc f2 args).run Tryz.prog w = .ok (.enter f2 args) w)
    (hc0 : W.cell? ⟨bb, 0, none⟩ = some (.func (.func f1) a1 b1)) (hc1 : ∀ w, R1 w → w.cell? ⟨bb, 1, none⟩ = some (.func (.func f2) a2 b2))
    (h1 : Calls Tryz.prog f1 (a1 ++ b1) W (fun e w => e = .returned (.int .i64 0) ∧ R1 w)) (h2 : ∀ w, R1 w → Calls Tryz.prog f2 (a2 ++ b2) w (fun e w' => e = .returned (.int .i64 0) ∧ R2 w')) :
    Calls Tryz.prog 104 #[.slice (some ⟨bb, 0, none⟩) 2 2] W fun e w' => e = .returned (.int .i64 0) ∧ R2 w' := by
  have H1 := hide h1
  have H2 := hide h2
  have HC1 := hide hc1
  clear h1 h2 hc1
  go_enter Tryz.func104, Tryz.ntmps104
  go_upto_region 2 with fail
  go_loopw [8] (fun x wr => (x = .int .i64 0 ∧ wr = W) ∨ (x = .int .i64 1 ∧ R1 wr) ∨ (x = .int .i64 2 ∧ R2 wr)) (fun x _ => 2 - (intOf x).toNat)
  case atStart => exact .inl ⟨rfl, rfl⟩
  case round =>
    rcases hrel with ⟨rfl, rfl⟩ | ⟨rfl, hr⟩ | ⟨rfl, hr⟩
    · go_wp2_with fail
      refine H1.out.mono ?_
      rintro e w1 ⟨rfl, hr⟩
      have HR := hide hr
      clear hr
      go_wp2_with fail
      exact ⟨.inr (.inl ⟨rfl, HR.out⟩), by simp [intOf]⟩
    · have hc := HC1.out wr hr
      have HR := hide hr
      clear hr
      go_wp2_with fail
      refine (H2.out wr HR.out).mono ?_
      rintro e w1 ⟨rfl, hr2⟩
      have HR2 := hide hr2
      clear hr2
      go_wp2_with fail
      exact ⟨.inr (.inr ⟨rfl, HR2.out⟩), by simp [intOf]⟩
    · go_wp2_with fail
      go_ret
      exact ⟨rfl, hr⟩
section
variable {W W' : World} {bs bl bd n : Nat} {F : Nat → Prop} {c : Nat → List Int} {m : Nat} {h : Hd} {at_ next used : Int} {P : Nat} {note : ByteArray} {bk bt bc q : Nat} {Dk Dt Dc : DataW Unit}
theorem PS.dead (hp : PS W bs bl bd n F c m h at_ next used P note bk bt bc q Dk Dt Dc) : PS (W.setCell ⟨bs, 7, none⟩ (.bool false)) bs bl bd n F c m h at_ next used P note bk bt bc q Dk Dt Dc := by
  have hk : Kp (OnlyF bs) W (W.setCell ⟨bs, 7, none⟩ (.bool false)) := Kp.set_only _ _ _ _
  exact ⟨hp.st.set_ 7 (.bool false), ⟨hp.ld.lg.kp hk (fun e => hp.nl.1 e.symm), hp.ld.ds.kp hk (fun k hf hg => hp.nf.1 (by cases hg; exact hf)), hp.ld.ne⟩, owns_kp hp.kept hk hp.ns.1, owns_kp hp.dirty hk hp.ns.2.1, owns_kp hp.change hk hp.ns.2.2, hp.nf, hp.nl, hp.ns, hp.nm⟩
set_option maxHeartbeats 400000 in
theorem says_any (hp : PS W bs bl bd n F c m h at_ next used P note bk bt bc q Dk Dt Dc) : Calls Tryz.prog 112 #[.pointer (some ⟨bs, 0, none⟩), .int .i64 0] W fun e w' => e = .returned (.int .i64 0) ∧ PS w' bs bl bd n F c m h at_ next used P note bk bt bc q Dk Dt Dc ∧ Kp (OnlyF bs) W w' := by
  have c7 : W.cell? ⟨bs, 7, none⟩ = some (.bool false) := hp.st.cell 7
  have f7 := hp.st.frozen 7
  have HP := hide hp.dead
  have hk : Kp (OnlyF bs) W (W.setCell ⟨bs, 7, none⟩ (.bool false)) := Kp.set_only _ _ _ _
  have HK := hide hk
  clear hp hk
  go_enter Tryz.func112, Tryz.ntmps112
  go_wp2
  go_ret
  exact ⟨rfl, HP.out, HK.out⟩
end
end Go.Proofs.YtnnfiicmplkakaaGreatDoor
namespace Go.Proofs.YtnnfiicmplkakaaGreatDoor
open Go.RowKit

/-- every block but those of Ex lies as it lay -/
def KeptX (Ex : Nat → Prop) (W W' : World) : Prop := Below 0 W W' ∧ ∀ k, k < W.heap.size → ¬ Ex k → W'.heap[k]? = W.heap[k]?
theorem KeptX.refl (Ex : Nat → Prop) (W : World) : KeptX Ex W W := ⟨Below.refl _ _, fun _ _ _ => rfl⟩
theorem KeptX.size {Ex : Nat → Prop} {W W' : World} (h : KeptX Ex W W') : W.heap.size ≤ W'.heap.size := h.1.size
theorem KeptX.trans {Ex : Nat → Prop} {A B C : World} (h : KeptX Ex A B) (k : KeptX Ex B C) : KeptX Ex A C :=
  ⟨h.1.trans k.1, fun i hi hE => (k.2 i (Nat.lt_of_lt_of_le hi h.size) hE).trans (h.2 i hi hE)⟩
theorem KeptX.mono {Ex Ey : Nat → Prop} {W W' : World} (h : KeptX Ex W W') (hE : ∀ k, Ex k → Ey k) : KeptX Ey W W' := ⟨h.1, fun k hk hn => h.2 k hk (fun e => hn (hE k e))⟩
theorem KeptX.alloc (Ex : Nat → Prop) (W : World) (o : Obj) : KeptX Ex W (W.alloc o) := ⟨(Below.refl 0 W).alloc (Nat.zero_le _) o, fun k hk _ => Below.heap_alloc W o k hk⟩
theorem KeptX.put (Ex : Nat → Prop) (W : World) (l : Nat) (o : Obj) (h : Ex l) : KeptX Ex W (W.putObj l o) :=
  ⟨(Below.refl 0 W).grown (grownBy_putObj' W l o) (Nat.zero_le _) (fun _ _ => Nat.zero_le _), fun _ _ hn => World.putObj_heap_other (fun e => hn (e ▸ h))⟩
theorem KeptX.setCell (Ex : Nat → Prop) (W : World) (p : Addr) (v : Value) (h : Ex p.block) : KeptX Ex W (W.setCell p v) :=
  ⟨(Below.refl 0 W).setCell (Nat.zero_le _) v, fun k _ hn => Below.heap_setCell W p v k (fun e => hn (e ▸ h))⟩
theorem KeptX.drew {Ex : Nat → Prop} {A W : World} (h : KeptX Ex A W) : KeptX Ex A W.drew := ⟨h.1.drew, h.2⟩
theorem KeptX.cell {Ex : Nat → Prop} {W W' : World} (h : KeptX Ex W W') {b : Nat} (hb : b < W.heap.size) (hE : ¬ Ex b) (o : Nat) : W'.cell? ⟨b, o, none⟩ = W.cell? ⟨b, o, none⟩ := World.cell?_of_block (h.2 b hb hE)
theorem KeptX.below {Ex : Nat → Prop} {W W' : World} {B : Nat} (h : KeptX Ex W W') (hB : B ≤ W.heap.size) (hE : ∀ k, k < B → ¬ Ex k) : Below B W W' := ⟨h.1.os, h.1.tape, h.1.output, h.1.size, fun k hk => h.2 k (by omega) (hE k hk)⟩
theorem below_put {B l : Nat} (W : World) (o : Obj) (h : B ≤ l) (hB : B ≤ W.heap.size) : Below B W (W.putObj l o) := (Below.refl B W).grown (grownBy_putObj' W l o) hB (fun k e => by cases e; exact h)

/-- J abides whatever is done in new blocks, and in the blocks of St. -/
def AbidesE {β : Type} (St : Nat → Prop) (J : β → World → Prop) : Prop := ∀ s W W', J s W → KeptX St W W' → J s W'
theorem KeptX.of_below {St : Nat → Prop} {W W' : World} (h : Below W.heap.size W W') : KeptX St W W' :=
  ⟨⟨h.os, h.tape, h.output, h.size, fun _ hk => absurd hk (Nat.not_lt_zero _)⟩, fun k hk _ => h.block k hk⟩
theorem KeptX.of_kp {F : Nat → Prop} {W W' : World} (h : Kp F W W') : KeptX F W W' := ⟨⟨h.os, h.tape, h.output, h.size, fun _ hk => absurd hk (Nat.not_lt_zero _)⟩, h.block⟩
theorem KeptX.kp {F : Nat → Prop} {W W' : World} (h : KeptX F W W') : Kp F W W' := ⟨h.1.os, h.1.tape, h.1.output, h.1.size, h.2⟩

variable {P : Program} {n : Nat}

/-- **THE LAW.** -/
theorem range_all {α : Type} {g : Operand} {ps : Array Tmp} {assign body : Code} {Q : Exit → Act → World → Prop} {a : Act} {w : World} {gf : Nat} {lb : Array Value}
    (hg : a.eval g = .func (.func gf) #[] lb) (eg : ∀ args w, (callFunc gf args).run P w = .ok (.enter gf args) w) (encs : α → Array Value) (hps : ∀ x, (encs x).size = ps.size)
    (xs : List α) (Ex St : Nat → Prop) (hEx : ∀ k, Ex k → k ≠ w.heap.size ∧ k ≠ w.heap.size + 1) (hSt : ∀ k, St k → k < w.heap.size)
    (hseq : ∀ (J : List α → World → Prop) (W : World), Below w.heap.size w W → W.heap.size = w.heap.size + 2 → AbidesE St J →
      (∀ pre x W1, J pre W1 → (pre ++ [x]) <+: xs → YieldAt Fence.wide (n - 1 - 1) P (w.heap.size + 1) (encs x) W1 (fun e W' =>
        e = .returned (.bool true) ∧ J (pre ++ [x]) W' ∧ KeptX (fun k => Ex k ∨ k = w.heap.size ∨ k = w.heap.size + 1) W1 W')) → J [] W →
      CallsIn Fence.wide (n - 1) P gf (#[.func (.yield (w.heap.size + 1)) #[] #[]] ++ lb) W fun e W' => (∃ v, e = .returned v) ∧ J xs W')
    (I : List α → World → Prop) (hI : AbidesE (fun k => St k ∨ k = w.heap.size ∨ k = w.heap.size + 1) I) (h0 : I [] w)
    (Ax : α → Act → World → Prop) (hAx : ∀ x a' W W', Ax x a' W → (∀ k, k ≠ w.heap.size + 1 → W'.heap[k]? = W.heap[k]?) → Ax x a' W')
    (hassign : ∀ (pre : List α) (x : α) (W : World) (K : Act → World → Prop), I pre W → w.heap.size + 2 ≤ W.heap.size → (∀ a' W', KeptX (fun _ => False) W W' → Ax x a' W' → K a' W') →
      assign.wpIn (Fence.wide.inRound (w.heap.size + 1)) (n - 1 - 1) P (Exit.then K (fun _ _ _ => False)) { tmps := (ps.zip (encs x)).foldl (fun t (p, v) => t.setIfInBounds p v) a.tmps, defers := [] } W)
    (hbody : ∀ (pre : List α) (x : α) (a' : Act) (W : World), w.heap.size + 2 ≤ W.heap.size → I pre W → Ax x a' W → (pre ++ [x]) <+: xs →
      body.wpIn (Fence.wide.inRound (w.heap.size + 1)) (n - 1 - 1) P (Exit.then (fun _ W' => KeptX Ex W W' ∧ I (pre ++ [x]) W') (fun _ _ _ => False)) a' W)
    (hdone : ∀ W, w.heap.size + 2 ≤ W.heap.size → I xs W → W.heap[w.heap.size]? = some (.deferred (some [])) → Q .normal { a with defers := { target := .collected w.heap.size, args := #[] } :: a.defers } W) :
    (Code.rangeFunc g ps assign body).wpIn Fence.wide n P Q a w := by
  refine wpIn_rangeFunc ?_
  intro fn hfn
  obtain ⟨rec, hrec⟩ : ∃ rec : LoopState → Option Code → Loop, rec = fun st pe => { state := st, pending := pe, fn, tmps := a.tmps, params := ps, assign, body, defers := w.heap.size } := ⟨_, rfl⟩
  obtain ⟨W1, hW1⟩ : ∃ W1, (w.alloc (.deferred (some []))).alloc (.loop (rec .ready none)) = W1 := ⟨_, rfl⟩
  have hz1 : W1.heap.size = w.heap.size + 2 := by rw [← hW1]; simp
  have hL1 : W1.heap[w.heap.size + 1]? = some (.loop (rec .ready none)) := by
    have := World.alloc_heap_new (w.alloc (.deferred (some []))) (.loop (rec .ready none))
    rwa [World.size_alloc, hW1] at this
  have hK1 : W1.heap[w.heap.size]? = some (.deferred (some [])) := by
    rw [← hW1]; exact (Below.heap_alloc _ _ _ (by simp)).trans (World.alloc_heap_new w _)
  have hb1 : Below w.heap.size w W1 := by
    rw [← hW1]; exact ((Below.refl _ w).alloc (Nat.le_refl _) _).alloc (by simp) _
  have hput : ∀ (W : World) (o : Obj), KeptX (fun k => St k ∨ k = w.heap.size ∨ k = w.heap.size + 1) W (W.putObj (w.heap.size + 1) o) := fun W o => KeptX.put _ W _ o (.inr (.inr rfl))
  refine ⟨w.heap.size + 1, [{ target := .collected w.heap.size, args := #[] }], W1, { target := .fn (.func gf) lb, args := #[.func (.yield (w.heap.size + 1)) #[] #[]] }, W1, gf,
    #[.func (.yield (w.heap.size + 1)) #[] #[]] ++ lb, W1, ?_, ?_, ?_, ?_, ?_, ?_⟩
  · rw [← hW1, hrec]; exact run_enterLoop_outer _ _ _ _ _
  · simp only [resolve, hg]
    simp [go_sem]
  · exact fun _ _ => trivial
  · simp [invoke, go_sem, eg]
  · intro h; cases h
  · refine (hseq (fun pre W => I pre W ∧ w.heap.size + 2 ≤ W.heap.size ∧ W.heap[w.heap.size + 1]? = some (.loop (rec .ready none)) ∧ W.heap[w.heap.size]? = some (.deferred (some [])))
      W1 hb1 hz1 ?_ ?_ ⟨hI _ _ _ h0 (KeptX.of_below hb1), by omega, hL1, hK1⟩).mono ?_
    · rintro s A B ⟨h1, h2, h3, h4⟩ hb
      exact ⟨hI _ _ _ h1 (hb.mono (fun k hk => .inl hk)), Nat.le_trans h2 hb.size, (hb.2 _ (by omega) (fun e => by have := hSt _ e; omega)).trans h3, (hb.2 _ (by omega) (fun e => by have := hSt _ e; omega)).trans h4⟩
    · -- one round
      rintro pre x W ⟨hi, hz, hl, hk⟩ hpre
      have hy := run_yield (P := P) (args := encs x) hl (by rw [hrec]; exact hps x)
      rw [hrec] at hy
      refine ⟨fn, _, assign, body, hy, roundIn_of_wpIn hfn (hassign pre x W _ hi hz ?_)⟩
      clear hy
      intro a' Wa hka hax
      have hza : w.heap.size + 2 ≤ Wa.heap.size := Nat.le_trans hz hka.size
      have hla : Wa.heap[w.heap.size + 1]? = some (.loop (rec .ready none)) := (hka.2 _ (by omega) (by simp)).trans hl
      have hda : Wa.heap[w.heap.size]? = some (.deferred (some [])) := (hka.2 _ (by omega) (by simp)).trans hk
      have hia : I pre Wa := hI _ _ _ hi (hka.mono (fun _ h => h.elim))
      obtain ⟨Wb, hWb⟩ : ∃ Wb, Wb = Wa.putObj (w.heap.size + 1) (.loop { rec .ready none with state := .busy }) := ⟨_, rfl⟩
      have hzb : Wb.heap.size = Wa.heap.size := by rw [hWb]; simp
      have hlb : Wb.heap[w.heap.size + 1]? = some (.loop { rec .ready none with state := .busy }) := by rw [hWb]; exact World.putObj_heap_same (by omega)
      have hdb : Wb.heap[w.heap.size]? = some (.deferred (some [])) := by rw [hWb]; exact (World.putObj_heap_other (by omega)).trans hda
      have hib : I pre Wb := by rw [hWb]; exact hI _ _ _ hia (hput Wa _)
      have hkb : KeptX (fun k => Ex k ∨ k = w.heap.size ∨ k = w.heap.size + 1) W Wb := by
        rw [hWb]; exact (hka.mono (fun _ h => h.elim)).trans (KeptX.put _ _ _ _ (.inr (.inr rfl)))
      refine ⟨Wb, by rw [hWb]; exact run_beginRound hla (by rw [hrec]), ?_⟩
      refine wpIn_mono (hbody pre x a' Wb (by omega) hib (hAx x a' Wa Wb hax (fun k hk => by rw [hWb]; exact World.putObj_heap_other hk)) hpre) ?_
      rintro e a3 W3 hp
      cases e with
      | normal =>
        obtain ⟨hk3, hi3⟩ := hp
        have hz3 := hk3.size
        have hl3 : W3.heap[w.heap.size + 1]? = some (.loop { rec .ready none with state := .busy }) := (hk3.2 _ (by omega) (fun h => (hEx _ h).2 rfl)).trans hlb
        have hd3 : W3.heap[w.heap.size]? = some (.deferred (some [])) := (hk3.2 _ (by omega) (fun h => (hEx _ h).1 rfl)).trans hdb
        have hr := run_endRound (P := P) none hl3
        rw [hrec] at hr ⊢
        refine ⟨_, _, hr, rfl, ⟨hI _ _ _ hi3 (hput W3 _), by simp; omega, World.putObj_heap_same (by omega), (World.putObj_heap_other (by omega)).trans hd3⟩, ?_⟩
        exact (hkb.trans (hk3.mono fun _ h => .inl h)).trans (KeptX.put _ _ _ _ (.inr (.inr rfl)))
      | ret => exact hp.elim
      | exit id => exact hp.elim
      | goto t => exact hp.elim
      | panic ch => exact hp.elim
      | outgrown => exact hp.elim
    · -- behind the iterator
      rintro e W2 ⟨⟨v, rfl⟩, ⟨hi, hz, hl, hk⟩⟩
      have he := run_endLoop (P := P) hl (by rw [hrec]; simp)
      rw [hrec] at he
      exact ⟨none, _, he, hdone _ (by simp; omega) (hI _ _ _ hi (hput W2 _)) ((World.putObj_heap_other (by omega)).trans hk)⟩

/-- the marks of ranges that have ended -/
def marks (Ds : List Nat) : List Deferred := Ds.map fun D => { target := .collected D, args := #[] }
/-- they stand in memory, each once -/
structure Marked (w : World) (B : Nat) (Ds : List Nat) : Prop where
  nodup : Ds.Nodup
  low : ∀ D ∈ Ds, B ≤ D
  at_ : ∀ D ∈ Ds, w.heap[D]? = some (.deferred (some []))
theorem leave_marks {fn : Func} {tmps : Array Value} {R : Ending → World → Prop} {B : Nat} : ∀ (Ds : List Nat) (w : World), Marked w B Ds → B ≤ w.heap.size →
    (∀ w', Below B w w' → (∀ k, k ∉ Ds → w'.heap[k]? = w.heap[k]?) → ∃ v, (results fn tmps).run P w' = .ok v w' ∧ R (.returned v) w') → LeavesInM Fence.wide n P fn tmps R (marks Ds) .returning w
  | [], w, _, _, h => h w (Below.refl _ _) (fun _ _ => rfl)
  | D :: Ds, w, hm, hB, h => by
    obtain ⟨hD, hnd⟩ := List.nodup_cons.1 hm.nodup
    have hat := hm.at_ D (by simp)
    refine ⟨by simp, .inl ⟨D, _, rfl, run_takeDeferred hat, ?_⟩⟩
    have hb : Below B w (w.putObj D (.deferred none)) := below_put w _ (hm.low D (by simp)) hB
    refine leave_marks Ds _ ⟨hnd, fun E hE => hm.low E (by simp [hE]), fun E hE => ?_⟩ (by simp; exact hB) fun w' h1 h2 => h w' (hb.trans h1) fun k hk => ?_
    · exact (World.putObj_heap_other (fun e => hD (by rw [← e]; exact hE))).trans (hm.at_ E (by simp [hE]))
    · simp only [List.mem_cons, not_or] at hk
      exact (h2 k hk.2).trans (World.putObj_heap_other hk.1)
end Go.Proofs.YtnnfiicmplkakaaGreatDoor
