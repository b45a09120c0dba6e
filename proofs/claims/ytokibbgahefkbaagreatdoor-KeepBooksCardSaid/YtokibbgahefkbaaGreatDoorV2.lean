/- Books, plain: pairs by keys, rising; what a put and a delete make of them, as the program does it and as the document says it. Books, plain: their bytes, and what bytes say. DERIVED: THE SHELF's CONTRACTS AT THIS DUMP, IN PLAIN WORDS (tools/lay-plain.mjs out of 'YtokibbgahefkbaaGreatDoorShelfK0.lean', which tools/lay-shelf.mjs wrote): THE SAME DECLARATIONS UNDER THE SAME NAMES: 'import', 'namespace', 'open', 'def', 'theorem' AND NOTHING ELSE: no command of the shelf's: FOR A HAND-IN. Each laying: the table of numbers ('.._ren') and one theorem, a field a fact of the dump's own or the kernel's comparison; each contract: ONE APPLICATION. Walks of package keep: find, at. Walks of package keep: Clone of pairs, Get, Len. Walks of the document's books: at, Get, Without. slices.Insert and slices.Delete of pairs, in a row of its own. Walks of package keep: With, Without. -/
import Derived.Test.YtokibbgahefkbaaGreatDoorV1
import Derived.Sort.Walk0
import Derived.Lib.Bytealg
import Derived.Laws.BytesArg
import Derived.Shelf.Small.Strs
import Derived.Shelf.Strings.Prefix
import Derived.Ground.NamesProg
import Derived.Test.YtokibbgahefkbaaGreatDoorProg
import Derived.Deep.Cut
import Derived.LoopTactic
import Derived.Shelf.Spec.SlicesInsertGrow
set_option linter.all false
namespace Go.Proofs.YtokibbgahefkbaaGreatDoor.Fe
open Go.RowKit

abbrev Ent := ByteArray × ByteArray
def blt (a b : ByteArray) : Bool := Op.bytesLess a.toList b.toList
theorem blt_iff (a b : ByteArray) : blt a b = true ↔ a.data.toList < b.data.toList := by
  unfold blt
  rw [toList_eq, toList_eq, bytesLess_eq, decide_eq_true_iff]
theorem blt_trans {a b c : ByteArray} (h1 : blt a b = true) (h2 : blt b c = true) : blt a c = true := by
  rw [blt_iff] at *
  exact List.lt_trans h1 h2
theorem blt_irrefl (a : ByteArray) : blt a a = false := by
  rw [← Bool.not_eq_true, blt_iff]
  exact List.lt_irrefl _
theorem bytes_ext {a b : ByteArray} (h : a.data.toList = b.data.toList) : a = b := ByteArray.ext (Array.toList_inj.mp h)
theorem blt_tri {a b : ByteArray} (h : blt a b = false) (hn : a ≠ b) : blt b a = true := by
  rw [← Bool.not_eq_true, blt_iff] at h
  rw [blt_iff]
  have h1 : b.data.toList ≤ a.data.toList := List.not_lt.mp h
  rcases List.le_iff_lt_or_eq.mp h1 with h2 | h2
  · exact h2
  · exact absurd (bytes_ext h2).symm hn
theorem blt_ne {a b : ByteArray} (h : blt a b = true) : a ≠ b := fun e => by rw [e, blt_irrefl] at h; cases h
theorem blt_asymm {a b : ByteArray} (h : blt a b = true) : blt b a = false := by
  cases e : blt b a with
  | false => rfl
  | true =>
    have := blt_trans h e
    rw [blt_irrefl] at this
    cases this
/-- what a comparison says -/
theorem cmp_neg (a b : ByteArray) : (Lib.compareBytes a.data.toList b.data.toList < 0) ↔ blt a b = true := by
  rw [blt_iff]
  generalize a.data.toList = x
  generalize b.data.toList = y
  induction x generalizing y with
  | nil => cases y with
    | nil => simp [Lib.compareBytes]
    | cons b y => simp [Lib.compareBytes]
  | cons a x ih => cases y with
    | nil => simp [Lib.compareBytes]
    | cons b y =>
      unfold Lib.compareBytes
      by_cases h1 : a < b
      · simp [h1, List.cons_lt_cons_iff]
      · by_cases h2 : b < a
        · simp only [if_neg h1, if_pos h2]
          constructor
          · intro h; omega
          · intro h
            rcases List.cons_lt_cons_iff.mp h with h | ⟨h, _⟩
            · exact absurd h h1
            · subst h; exact absurd h2 h1
        · have e : a = b := UInt8.le_antisymm (UInt8.not_lt.mp h2) (UInt8.not_lt.mp h1)
          subst e
          simp only [if_neg h1]
          rw [ih y, List.cons_lt_cons_iff]
          simp
theorem cmp_zero (a b : ByteArray) : (Lib.compareBytes a.data.toList b.data.toList = 0) ↔ a = b := by
  constructor
  · intro h
    refine bytes_ext ?_
    revert h
    generalize a.data.toList = x
    generalize b.data.toList = y
    induction x generalizing y with
    | nil => cases y with
      | nil => intro _; rfl
      | cons b y => simp [Lib.compareBytes]
    | cons a x ih => cases y with
      | nil => simp [Lib.compareBytes]
      | cons b y =>
        unfold Lib.compareBytes
        by_cases h1 : a < b
        · simp [h1]
        · by_cases h2 : b < a
          · simp [h1, h2]
          · have e : a = b := UInt8.le_antisymm (UInt8.not_lt.mp h2) (UInt8.not_lt.mp h1)
            subst e
            simp only [if_neg h1]
            intro h
            rw [ih y h]
  · rintro rfl
    generalize a.data.toList = x
    induction x with
    | nil => rfl
    | cons a x ih =>
      unfold Lib.compareBytes
      have h1 : ¬ a < a := UInt8.lt_irrefl a
      simp only [if_neg h1]
      exact ih

/-- where a key is, or would be -/
structure At (es : List Ent) (key : ByteArray) (i : Nat) : Prop where
  le : i ≤ es.length
  lo : ∀ m (h : m < es.length), m < i → blt es[m].1 key = true
  hi : ∀ m (h : m < es.length), i ≤ m → blt es[m].1 key = false
theorem At.tail {e : Ent} {es : List Ent} {key : ByteArray} {j : Nat} (h : At (e :: es) key (j + 1)) : At es key j := by
  refine ⟨?_, fun m hm hj => ?_, fun m hm hj => ?_⟩
  · have := h.le; simp only [List.length_cons] at this; omega
  · exact h.lo (m + 1) (by simp only [List.length_cons]; omega) (by omega)
  · exact h.hi (m + 1) (by simp only [List.length_cons]; omega) (by omega)
theorem At.head {e : Ent} {es : List Ent} {key : ByteArray} {j : Nat} (h : At (e :: es) key (j + 1)) : blt e.1 key = true := h.lo 0 (by simp) (Nat.succ_pos _)
def putE : List Ent → ByteArray → ByteArray → List Ent
  | [], k, v => [(k, v)]
  | e :: es, k, v => if e.1 = k then (k, v) :: es else if blt e.1 k = true then e :: putE es k v else (k, v) :: e :: es
def delE (es : List Ent) (k : ByteArray) : List Ent := es.filter fun e => decide (e.1 ≠ k)
theorem delE_cons (e : Ent) (es : List Ent) (k : ByteArray) : delE (e :: es) k = if e.1 = k then delE es k else e :: delE es k := by
  unfold delE
  rw [List.filter_cons]
  by_cases h : e.1 = k <;> simp [h]
theorem delE_all {es : List Ent} {k : ByteArray} (h : ∀ b ∈ es, b.1 ≠ k) : delE es k = es := List.filter_eq_self.mpr fun b hb => by simpa using h b hb
def lookup (es : List Ent) (k : ByteArray) : Option ByteArray := (es.find? fun e => decide (e.1 = k)).map (·.2)
theorem lookup_cons (e : Ent) (es : List Ent) (k : ByteArray) : lookup (e :: es) k = if e.1 = k then some e.2 else lookup es k := by
  unfold lookup
  rw [List.find?_cons]
  by_cases h : e.1 = k
  · simp [h]
  · simp [h]
theorem putE_hit : ∀ (es : List Ent) (key val : ByteArray) (i : Nat) (_ : At es key i) (hi : i < es.length) (_ : es[i].1 = key), putE es key val = es.set i (key, val)
  | [], _, _, _, _, hi, _ => absurd hi (Nat.not_lt_zero _)
  | e :: es, key, val, 0, _, _, he => by
    have he : e.1 = key := he
    simp [putE, he]
  | e :: es, key, val, j + 1, hat, hi, he => by
    have h1 := hat.head
    have ih := putE_hit es key val j hat.tail (by simpa using hi) he
    simp [putE, blt_ne h1, h1, ih]
theorem putE_miss : ∀ (es : List Ent) (key val : ByteArray) (i : Nat) (_ : At es key i) (_ : ∀ h : i < es.length, es[i].1 ≠ key), putE es key val = es.take i ++ (key, val) :: es.drop i
  | [], _, _, i, _, _ => by simp [putE]
  | e :: es, key, val, 0, hat, he => by
    have h1 : e.1 ≠ key := he (by simp)
    have h2 : blt e.1 key = false := hat.hi 0 (by simp) (Nat.le_refl _)
    simp [putE, h1, h2]
  | e :: es, key, val, j + 1, hat, he => by
    have h1 := hat.head
    have ih := putE_miss es key val j hat.tail (fun h => he (by simpa using h))
    simp [putE, blt_ne h1, h1, ih]
theorem putE_mem : ∀ {es : List Ent} {key val : ByteArray} {e : Ent}, e ∈ putE es key val → e = (key, val) ∨ e ∈ es
  | [], key, val, e, h => by simp [putE] at h; exact .inl h
  | x :: es, key, val, e, h => by
    unfold putE at h
    split at h
    · rcases List.mem_cons.mp h with h | h
      · exact .inl h
      · exact .inr (List.mem_cons_of_mem _ h)
    · split at h
      · rcases List.mem_cons.mp h with h | h
        · exact .inr (h ▸ List.mem_cons_self)
        · rcases putE_mem h with h | h
          · exact .inl h
          · exact .inr (List.mem_cons_of_mem _ h)
      · rcases List.mem_cons.mp h with h | h
        · exact .inl h
        · exact .inr h
/-- keys that rise -/
def RiseE (es : List Ent) : Prop := es.Pairwise fun a b => blt a.1 b.1 = true
theorem RiseE.mono {es : List Ent} (h : RiseE es) (key : ByteArray) (a b : Nat) (ha : a < es.length) (hb : b < es.length) (hab : a ≤ b) (hk : blt es[b].1 key = true) : blt es[a].1 key = true := by
  by_cases e : a = b
  · subst e; exact hk
  · exact blt_trans ((List.pairwise_iff_getElem.mp h) a b ha hb (by omega)) hk
theorem RiseE.put : ∀ {es : List Ent} (_ : RiseE es) (key val : ByteArray), RiseE (putE es key val)
  | [], _, key, val => by simp [putE, RiseE]
  | e :: es, h, key, val => by
    obtain ⟨h1, h2⟩ := List.pairwise_cons.mp h
    unfold putE
    split
    · rename_i he
      refine List.pairwise_cons.mpr ⟨fun b hb => ?_, h2⟩
      exact he ▸ h1 b hb
    · rename_i he
      split
      · rename_i hl
        refine List.pairwise_cons.mpr ⟨fun b hb => ?_, RiseE.put h2 key val⟩
        rcases putE_mem hb with rfl | hb
        · exact hl
        · exact h1 b hb
      · rename_i hl
        have hk : blt key e.1 = true := blt_tri (by simpa using hl) he
        refine List.pairwise_cons.mpr ⟨fun b hb => ?_, h⟩
        rcases List.mem_cons.mp hb with rfl | hb
        · exact hk
        · exact blt_trans hk (h1 b hb)
theorem RiseE.del {es : List Ent} (h : RiseE es) (key : ByteArray) : RiseE (delE es key) := List.Pairwise.sublist List.filter_sublist h
/-- the place is known: without it -/
theorem delE_hit : ∀ (es : List Ent) (_ : RiseE es) (key : ByteArray) (i : Nat) (_ : At es key i) (hi : i < es.length) (_ : es[i].1 = key), delE es key = es.take i ++ es.drop (i + 1)
  | [], _, _, _, _, hi, _ => absurd hi (Nat.not_lt_zero _)
  | e :: es, hr, key, 0, _, _, he => by
    have he : e.1 = key := he
    obtain ⟨h1, _⟩ := List.pairwise_cons.mp hr
    rw [delE_cons, if_pos he, delE_all fun b hb => by
      have := blt_ne (h1 b hb)
      rw [he] at this
      exact this.symm]
    rfl
  | e :: es, hr, key, j + 1, hat, hi, he => by
    have h1 := hat.head
    obtain ⟨_, h2⟩ := List.pairwise_cons.mp hr
    have ih := delE_hit es h2 key j hat.tail (by simpa using hi) he
    rw [delE_cons, if_neg (blt_ne h1), ih]
    rfl
theorem At.all {es : List Ent} {key : ByteArray} {i : Nat} (hat : At es key i) (he : ∀ h : i < es.length, es[i].1 ≠ key) (hr : RiseE es) : ∀ m (h : m < es.length), es[m].1 ≠ key := fun m hm e => by
  by_cases h1 : m < i
  · have := hat.lo m hm h1
    rw [e, blt_irrefl] at this
    cases this
  · have h2 : i < es.length := by omega
    have h3 := hat.hi i h2 (Nat.le_refl _)
    by_cases h4 : m = i
    · subst h4; exact he hm e
    · have h5 := (List.pairwise_iff_getElem.mp hr) i m h2 hm (by omega)
      rw [e, h3] at h5
      cases h5
theorem delE_miss {es : List Ent} {key : ByteArray} (he : ∀ m (h : m < es.length), es[m].1 ≠ key) : delE es key = es := List.filter_eq_self.mpr fun b hb => by
  obtain ⟨m, hm, rfl⟩ := List.getElem_of_mem hb
  simpa using he m hm
theorem lookup_hit {es : List Ent} (hr : RiseE es) {i : Nat} (hi : i < es.length) : lookup es es[i].1 = some es[i].2 := by
  unfold lookup
  have : es.find? (fun e => decide (e.1 = es[i].1)) = some es[i] := by
    rw [List.find?_eq_some_iff_getElem]
    refine ⟨by simp, i, hi, rfl, fun j hj => ?_⟩
    have := blt_ne ((List.pairwise_iff_getElem.mp hr) j i (by omega) hi hj)
    simpa using this
  rw [this]
  rfl
theorem lookup_miss {es : List Ent} {key : ByteArray} (he : ∀ m (h : m < es.length), es[m].1 ≠ key) : lookup es key = none := by
  unfold lookup
  rw [List.find?_eq_none.mpr fun b hb => by
    obtain ⟨m, hm, rfl⟩ := List.getElem_of_mem hb
    simpa using he m hm]
  rfl
/-! ### the document's put: what is left of the key, and the pair behind the lower ones -/
def atE (es : List Ent) (key : ByteArray) : Nat := (es.takeWhile fun e => blt e.1 key).length
theorem putE_ref : ∀ {es : List Ent} (_ : RiseE es) (key val : ByteArray), putE es key val = (delE es key).take (atE (delE es key) key) ++ (key, val) :: (delE es key).drop (atE (delE es key) key)
  | [], _, key, val => rfl
  | e :: es, h, key, val => by
    obtain ⟨h1, h2⟩ := List.pairwise_cons.mp h
    by_cases he : e.1 = key
    · have hd : delE (e :: es) key = es := by
        rw [delE_cons, if_pos he, delE_all fun b hb => by
          have := blt_ne (h1 b hb)
          rw [he] at this
          exact this.symm]
      have ha : atE es key = 0 := by
        cases es with
        | nil => rfl
        | cons b es =>
          have := blt_asymm (h1 b List.mem_cons_self)
          rw [he] at this
          simp [atE, List.takeWhile_cons, this]
      rw [hd, ha]
      simp [putE, he]
    · have hd : delE (e :: es) key = e :: delE es key := by rw [delE_cons, if_neg he]
      rw [hd]
      by_cases hl : blt e.1 key = true
      · have ha : atE (e :: delE es key) key = atE (delE es key) key + 1 := by simp [atE, List.takeWhile_cons, hl]
        rw [ha]
        simp [putE, he, hl, putE_ref h2 key val]
      · have hl : blt e.1 key = false := by simpa using hl
        have ha : atE (e :: delE es key) key = 0 := by simp [atE, List.takeWhile_cons, hl]
        rw [ha]
        have hdel : delE es key = es := List.filter_eq_self.mpr fun b hb => by
          have h3 := blt_trans (blt_tri hl he) (h1 b hb)
          simpa using (blt_ne h3).symm
        simp [putE, he, hl, hdel]
theorem putE_length (es : List Ent) (h : RiseE es) (key val : ByteArray) : (putE es key val).length = if (lookup es key).isSome then es.length else es.length + 1 := by
  induction es with
  | nil => simp [putE, lookup]
  | cons e es ih =>
    obtain ⟨h1, h2⟩ := List.pairwise_cons.mp h
    rw [lookup_cons]
    by_cases he : e.1 = key
    · simp [putE, he]
    · by_cases hl : blt e.1 key = true
      · simp only [putE, if_neg he, if_pos hl, List.length_cons, ih h2]
        split <;> rfl
      · have hn : lookup es key = none := lookup_miss fun m hm => by
          have h3 := blt_trans (blt_tri (by simpa using hl) he) (h1 es[m] (List.getElem_mem hm))
          exact (blt_ne h3).symm
        simp [putE, if_neg he, hl, hn]
end Go.Proofs.YtokibbgahefkbaaGreatDoor.Fe
namespace Go.Proofs.YtokibbgahefkbaaGreatDoor.Fe
open Go.RowKit

/-- the bytes of a text, as numbers -/
def nS (s : ByteArray) : List Int := s.data.toList.map fun c => (c.toNat : Int)
theorem nS_len (s : ByteArray) : (nS s).length = s.size := by simp [nS]
theorem nS_byt (s : ByteArray) : Byt (nS s) := fun x hx => by
  simp only [nS, List.mem_map] at hx
  obtain ⟨c, _, rfl⟩ := hx
  have := c.toNat_lt
  omega
theorem nS_of {xs : List Int} (h : Byt xs) : nS (strOfNums xs) = xs := by
  unfold nS
  rw [strOfNums_data, List.map_map]
  conv => rhs; rw [← List.map_id xs]
  refine List.map_congr_left fun x hx => ?_
  have := h x hx
  simp only [Function.comp, id, UInt8.toNat_ofNat']
  omega
theorem nS_inj {a b : ByteArray} (h : nS a = nS b) : a = b := by
  refine bytes_ext (List.map_inj_right (f := fun c : UInt8 => (c.toNat : Int)) (fun x y e => ?_) |>.mp h)
  exact UInt8.toNat_inj.mp (by omega)
theorem ofNums_nS (s : ByteArray) : strOfNums (nS s) = s := nS_inj (nS_of (nS_byt s))
theorem ofNums_size (xs : List Int) : (strOfNums xs).size = xs.length := by simp [strOfNums, ByteArray.size]
/-- a name: how long it is, and it -/
def encN (s : ByteArray) : List Int := (s.size : Int) :: nS s
def encE (e : Ent) : List Int := encN e.1 ++ encN e.2
def encP (es : List Ent) : List Int := es.flatMap encE
/-- the bytes of a book -/
def encB (es : List Ent) : List Int := Pl.be 2 es.length ++ encP es
theorem encP_cons (e : Ent) (es : List Ent) : encP (e :: es) = encE e ++ encP es := rfl
theorem encP_app (a b : List Ent) : encP (a ++ b) = encP a ++ encP b := by simp [encP]
theorem encE_len (e : Ent) : (encE e).length = e.1.size + e.2.size + 2 := by simp [encE, encN, nS_len]; omega
/-- may a pair be in a book? -/
def fitE (e : Ent) : Prop := 0 < e.1.size ∧ e.1.size ≤ 40 ∧ e.2.size ≤ 200
/-- a book -/
structure Bk (es : List Ent) : Prop where
  rise : RiseE es
  fit : ∀ e ∈ es, fitE e
  len : es.length ≤ 30
theorem Bk.nil : Bk [] := ⟨List.Pairwise.nil, (fun _ h => nomatch h), Nat.zero_le _⟩
theorem Bk.del {es : List Ent} (h : Bk es) (k : ByteArray) : Bk (delE es k) :=
  ⟨h.rise.del k, fun e he => h.fit e (List.mem_filter.mp he).1, Nat.le_trans (List.length_filter_le _ _) h.len⟩
/-- a pair more: the error -/
def putErr (es : List Ent) (k v : ByteArray) : Int := if k.size = 0 ∨ 40 < k.size ∨ 200 < v.size then 2 else if (lookup es k).isNone ∧ 30 ≤ es.length then 6 else 0
theorem encP_len_le {es : List Ent} (h : ∀ e ∈ es, fitE e) : (encP es).length ≤ 242 * es.length := by
  induction es with
  | nil => simp [encP]
  | cons e es ih =>
    have h1 := h e List.mem_cons_self
    have h2 := ih fun x hx => h x (List.mem_cons_of_mem _ hx)
    have h3 : e.1.size ≤ 40 := h1.2.1
    have h4 : e.2.size ≤ 200 := h1.2.2
    rw [encP_cons, List.length_append, encE_len, List.length_cons]
    omega
/-! ### what bytes say -/
def nameL : List Int → Option (List Int × List Int)
  | [] => none
  | n :: r => if n.toNat ≤ r.length then some (r.take n.toNat, r.drop n.toNat) else none
theorem nameL_some {xs k r : List Int} (h : nameL xs = some (k, r)) : ∃ n, xs = n :: (k ++ r) ∧ n.toNat = k.length := by
  cases xs with
  | nil => cases h
  | cons n t =>
    have h' : (if n.toNat ≤ t.length then some (t.take n.toNat, t.drop n.toNat) else none) = some (k, r) := h
    by_cases hn : n.toNat ≤ t.length
    · rw [if_pos hn] at h'
      cases h'
      exact ⟨n, by rw [List.take_append_drop], by rw [List.length_take]; omega⟩
    · rw [if_neg hn] at h'
      cases h'
/-- the pairs that bytes say, one behind the other: the book, and what is left; none: they say none -/
def loopP : Nat → List Ent → List Int → Option (List Ent × List Int)
  | 0, b, xs => some (b, xs)
  | n + 1, b, xs => match nameL xs with
    | none => none
    | some (k, r) => match nameL r with
      | none => none
      | some (v, r2) => if putErr b (strOfNums k) (strOfNums v) = 0 then loopP n (putE b (strOfNums k) (strOfNums v)) r2 else none
/-- the book of bytes -/
def takeP (xs : List Int) : Option (List Ent) :=
  if 2 ≤ xs.length then match loopP (Pl.un (xs.take 2)).toNat [] (xs.drop 2) with
    | some (b, _) => if encB b = xs then some b else none
    | none => none
  else none
theorem putErr_ok {es : List Ent} {k v : ByteArray} (h : putErr es k v = 0) : (0 < k.size ∧ k.size ≤ 40 ∧ v.size ≤ 200) ∧ ((lookup es k).isNone = true → es.length < 30) := by
  unfold putErr at h
  split at h
  · cases h
  · rename_i h1
    split at h
    · cases h
    · rename_i h2
      exact ⟨by omega, fun hn => by
        by_cases h3 : es.length < 30
        · exact h3
        · exact absurd ⟨hn, by omega⟩ h2⟩
theorem Bk.put {es : List Ent} (h : Bk es) {k v : ByteArray} (he : putErr es k v = 0) : Bk (putE es k v) := by
  obtain ⟨h1, h2⟩ := putErr_ok he
  refine ⟨h.rise.put k v, fun e hm => ?_, ?_⟩
  · rcases putE_mem hm with rfl | hm
    · exact h1
    · exact h.fit e hm
  · rw [putE_length es h.rise]
    have := h.len
    split
    · exact this
    · rename_i hn
      have := h2 (by simpa using hn)
      omega
theorem encP_putE_le (es : List Ent) (k v : ByteArray) : (encP (putE es k v)).length ≤ (encP es).length + (k.size + v.size + 2) := by
  induction es with
  | nil => simp [putE, encP, encE, encN, nS_len]; omega
  | cons e es ih =>
    unfold putE
    split
    · rw [encP_cons, encP_cons, List.length_append, List.length_append, encE_len]
      simp only
      omega
    · split
      · rw [encP_cons, encP_cons, List.length_append, List.length_append]
        omega
      · rw [encP_cons, List.length_append, encE_len]
        simp only
        omega
theorem loopP_ok : ∀ (n : Nat) (b : List Ent) (xs : List Int) (b' : List Ent) (r : List Int), Bk b → loopP n b xs = some (b', r) → Bk b' ∧ (encP b').length + r.length ≤ (encP b).length + xs.length
  | 0, b, xs, b', r, hb, h => by cases h; exact ⟨hb, Nat.le_refl _⟩
  | n + 1, b, xs, b', r, hb, h => by
    unfold loopP at h
    split at h
    · cases h
    · rename_i k r1 h1
      split at h
      · cases h
      · rename_i v r2 h2
        split at h
        · rename_i h3
          obtain ⟨i1, i2⟩ := loopP_ok n _ _ _ _ (hb.put h3) h
          refine ⟨i1, ?_⟩
          obtain ⟨x, rfl, hx⟩ := nameL_some h1
          obtain ⟨y, rfl, hy⟩ := nameL_some h2
          have h4 := encP_putE_le b (strOfNums k) (strOfNums v)
          rw [ofNums_size, ofNums_size] at h4
          simp only [List.length_cons, List.length_append]
          omega
        · cases h
theorem loopP_left {n : Nat} {xs r : List Int} {b : List Ent} (h : loopP n [] xs = some (b, r)) (he : (encP b).length = xs.length) : r = [] := by
  have := (loopP_ok _ _ _ _ _ Bk.nil h).2
  have h0 : (encP []).length = 0 := rfl
  exact List.eq_nil_of_length_eq_zero (by omega)
end Go.Proofs.YtokibbgahefkbaaGreatDoor.Fe
namespace Go.Proofs
open Go.Shelf
def Tryz.lays106_ren : Go.Shelf.Ren := ⟨fun | 106 => 98 | 213 => 131 | 265 => 174 | n => n, fun | 9 => 9 | 3 => 3 | n => n, fun | n => n⟩
theorem Tryz.lays106 : Go.Proofs.Lays.n106 Tryz.prog Tryz.lays106_ren := {
  mixed := by kernel_rfl
  f106 := Tryz.func98.trans (congrArg some (by kernel_rfl))
  f213 := Tryz.func131.trans (congrArg some (by kernel_rfl))
  f265 := Tryz.func174.trans (congrArg some (by kernel_rfl))
  t3 := Tryz.underlying3
  a3 := Tryz.isAgg3
  z3 := Tryz.sizeOf3
  v3 := Tryz.zeroValue3
  t9 := Tryz.underlying9
  a9 := Tryz.isAgg9
  z9 := Tryz.sizeOf9
  v9 := Tryz.zeroValue9 }
def Tryz.lays99_ren : Go.Shelf.Ren := ⟨fun | 99 => 56 | 206 => 92 | n => n, fun | 9 => 9 | 4 => 4 | 3 => 3 | n => n, fun | n => n⟩
theorem Tryz.lays99 : Go.Proofs.Lays.n99 Tryz.prog Tryz.lays99_ren := {
  mixed := by kernel_rfl
  f99 := Tryz.func56.trans (congrArg some (by kernel_rfl))
  f206 := Tryz.func92.trans (congrArg some (by kernel_rfl))
  t3 := Tryz.underlying3
  a3 := Tryz.isAgg3
  z3 := Tryz.sizeOf3
  v3 := Tryz.zeroValue3
  t4 := Tryz.underlying4
  a4 := Tryz.isAgg4
  z4 := Tryz.sizeOf4
  v4 := Tryz.zeroValue4
  t9 := Tryz.underlying9
  a9 := Tryz.isAgg9
  z9 := Tryz.sizeOf9
  v9 := Tryz.zeroValue9 }
end Go.Proofs
namespace Go.Proofs.YtokibbgahefkbaaGreatDoor.Fe
open Go.RowKit Go.Shelf

def pv (es : List Ent) : List Value := es.flatMap fun e => [.string e.1, .string e.2]
theorem pv_len (es : List Ent) : (pv es).length = es.length * 2 := by
  induction es with
  | nil => rfl
  | cons e es ih =>
    simp only [pv, List.flatMap_cons, List.length_append, List.length_cons, List.length_nil] at ih ⊢
    omega
theorem pv_app (a b : List Ent) : pv (a ++ b) = pv a ++ pv b := by simp [pv]
theorem pv_cons (e : Ent) (es : List Ent) : pv (e :: es) = .string e.1 :: .string e.2 :: pv es := rfl
theorem pv_get (es : List Ent) (i : Nat) (h : i < es.length) : (pv es)[i * 2]? = some (.string es[i].1) ∧ (pv es)[i * 2 + 1]? = some (.string es[i].2) := by
  induction es generalizing i with
  | nil => simp at h
  | cons e es ih =>
    cases i with
    | zero => exact ⟨rfl, rfl⟩
    | succ i =>
      have := ih i (by simpa using h)
      rw [pv_cons, show (i + 1) * 2 = i * 2 + 1 + 1 by omega]
      simpa using this
theorem pv_one (es : List Ent) : ∀ v ∈ pv es, v.oneCell' = true := by
  intro v hv
  simp only [pv, List.mem_flatMap, List.mem_cons, List.not_mem_nil, or_false] at hv
  obtain ⟨e, _, rfl | rfl⟩ := hv <;> rfl
/-- the cells of the i-th pair -/
theorem prs_at {w : World} {B : Nat} {A : Option Addr} {es : List Ent} (h : Mem w B A (pv es)) (hn : 0 < es.length) : ∃ b off, A = some ⟨b, off, none⟩ ∧ b < B ∧
    ∀ i (hi : i < es.length), w.cell? ⟨b, off + i * 2, none⟩ = some (.string es[i].1) ∧ w.cell? ⟨b, off + i * 2 + 1, none⟩ = some (.string es[i].2) := by
  obtain ⟨b, off, e, hb, hc⟩ := h.get (by rw [pv_len]; omega)
  refine ⟨b, off, e, hb, fun i hi => ?_⟩
  obtain ⟨h1, h2⟩ := pv_get es i hi
  obtain ⟨l1, e1⟩ := List.getElem?_eq_some_iff.mp h1
  obtain ⟨l2, e2⟩ := List.getElem?_eq_some_iff.mp h2
  exact ⟨by rw [hc _ l1, e1], by rw [Nat.add_assoc, hc _ l2, e2]⟩
theorem atKey_any (k v : ByteArray) (w : World) : Calls Tryz.prog 69 #[.agg #[.string k, .string v]] w fun e w' => e = .returned (.string k) ∧ Below w.heap.size w w' := by
  have c0 := (Whole.new w [.string k, .string v] 86).cell 0
  simp only [List.getElem?_cons_zero] at c0
  have HB := hide (show Below w.heap.size w (w.alloc (.cells [.string k, .string v].toArray 86)) from (Below.refl _ _).alloc (Nat.le_refl _) _)
  go_enter Tryz.func69, Tryz.ntmps69
  go_wp2
  go_ret
  exact ⟨rfl, HB.out⟩
def keyFn : Value := .func (.func 69) #[] #[]
def cmpFn (b : Nat) : Value := .func (.func 97) #[] #[.pointer (some ⟨b, 0, none⟩)]
theorem compare_any (a b : ByteArray) (w : World) : Calls Tryz.prog 98 #[.string a, .string b] w fun e w' => e = .returned (.int .i64 (Lib.compareBytes a.data.toList b.data.toList)) ∧ w' = w :=
  Any.strings_Compare Tryz.lays106 a b w
/-- one comparison -/
theorem findCmp_any (b : Nat) (k v key : ByteArray) (w : World) (h : w.cell? ⟨b, 0, none⟩ = some keyFn) :
    Calls Tryz.prog 97 #[.agg #[.string k, .string v], .string key, .pointer (some ⟨b, 0, none⟩)] w fun e w' => e = .returned (.int .i64 (Lib.compareBytes k.data.toList key.data.toList)) ∧ Below w.heap.size w w' := by
  have hbl := cell_lt h
  have hb1 : Below w.heap.size w (w.alloc (.cells [.string k, .string v].toArray 86)) := (Below.refl _ _).alloc (Nat.le_refl _) _
  have c0 := (Whole.new w [.string k, .string v] 86).cell 0
  have c1 := (Whole.new w [.string k, .string v] 86).cell 1
  have c2 := (hb1.cell (p := ⟨b, 0, none⟩) hbl).trans h
  simp only [List.getElem?_cons_zero, List.getElem?_cons_succ] at c0 c1
  have HB := hide hb1
  have HK := fun w => hide (atKey_any k v w)
  have HC := fun w => hide (compare_any k key w)
  unfold keyFn at *
  clear h hb1
  go_enter Tryz.func97, Tryz.ntmps97
  go_wp2_with fail
  refine (HK _).out.mono ?_
  rintro e w1 ⟨rfl, hb⟩
  have HB1 := hide (HB.out.trans (hb.mono (by simp)))
  clear hb
  go_wp2_with fail
  refine (HC _).out.mono ?_
  rintro e w2 ⟨rfl, rfl⟩
  go_wp2_with fail
  go_ret
  exact ⟨rfl, HB1.out⟩
def BsRes (es : List Ent) (key : ByteArray) (w : World) (e : Ending) (w' : World) : Prop :=
  ∃ i, At es key i ∧ ∃ f : Bool, e = .returned (.tuple #[.int .i64 (i : Int), .bool f]) ∧ (f = true ↔ ∃ h : i < es.length, es[i].1 = key) ∧ Below w.heap.size w w'
set_option maxHeartbeats 2000000 in
set_option maxRecDepth 20000 in
theorem bsearch_any (A : Option Addr) (c b : Nat) (es : List Ent) (key : ByteArray) (w : World) (hm : Mem w w.heap.size A (pv es)) (hl : es.length ≤ 100000) (hr : RiseE es) (h : w.cell? ⟨b, 0, none⟩ = some keyFn) :
    Calls Tryz.prog 96 #[.slice A es.length c, .string key, cmpFn b] w (BsRes es key w) := by
  have HM := hide hm
  have hbl := cell_lt h
  have HF := hide h
  have HR := hide hr
  clear hm hr h
  unfold cmpFn
  go_enter Tryz.func96, Tryz.ntmps96
  go_upto_region 3 with fail
  go_loopw [9, 10] (fun x y wr => ∃ lo hi : Nat, x = .int .i64 lo ∧ y = .int .i64 hi ∧ lo ≤ hi ∧ hi ≤ es.length ∧ (∀ m (h : m < es.length), m < lo → blt es[m].1 key = true) ∧ (∀ m (h : m < es.length), hi ≤ m → blt es[m].1 key = false) ∧ Below w.heap.size w wr) (fun x y _ => (Go.RowKit.intOf y).toNat - (Go.RowKit.intOf x).toNat)
  case atStart => exact ⟨0, es.length, rfl, rfl, Nat.zero_le _, Nat.le_refl _, fun m h h0 => absurd h0 (Nat.not_lt_zero _), fun m h h0 => absurd h (by omega), Below.refl _ _⟩
  case round =>
    obtain ⟨lo, hi, rfl, rfl, hlh, hhn, hlo, hhi, hbw⟩ := hrel
    have HLo := hide hlo
    have HHi := hide hhi
    have HBw := hide hbw
    clear hlo hhi hbw
    by_cases hlt : lo < hi
    · obtain ⟨g, off, rfl, hg, hc⟩ := prs_at ((HM.out.below HBw.out).mono HBw.out.size) (by omega)
      obtain ⟨md, hmd⟩ : ∃ md : Nat, md = (lo + hi) / 2 := ⟨_, rfl⟩
      have hm1 : lo ≤ md := by omega
      have hm2 : md < hi := by omega
      have hmn : md < es.length := by omega
      obtain ⟨f0, f1⟩ := hc md hmn
      have w1 : IntKind.i64.wrap ((lo : Int) + (hi : Int)) = (lo : Int) + (hi : Int) := IntWalk.i64_in _ (by omega)
      have w2 : IntKind.u64.wrap ((lo : Int) + (hi : Int)) = (lo : Int) + (hi : Int) := by rw [IntKind.wrap_u64]; omega
      have w3 : ((lo : Int) + (hi : Int)) / 2 = (md : Int) := by omega
      have HMd := hide hmd
      have HBl := hide (cmp_neg (es[md]'hmn).1 key)
      have HC := hide (findCmp_any b (es[md]'hmn).1 (es[md]'hmn).2 key wr ((HBw.out.cell (p := ⟨b, 0, none⟩) hbl).trans HF.out))
      generalize hcm : Lib.compareBytes (es[md]'hmn).1.data.toList key.data.toList = cm at HBl HC
      clear hmd hc hcm
      generalize hkm : es[md]'hmn = em at f0 f1 HC HBl
      have HKm := hide hkm
      clear hkm
      obtain ⟨km, vm⟩ := em
      go_wp2_with fail
      refine HC.out.mono ?_
      rintro e w' ⟨rfl, hb⟩
      have HB2 := hide (HBw.out.trans (hb.mono HBw.out.size))
      clear hb
      by_cases hcm : cm < 0
      · have hbt := HBl.out.mp hcm
        have HBt := hide hbt
        clear hbt
        go_wp2_with fail
        go_roundw
        case rel => exact ⟨md + 1, hi, by go_num, rfl, by omega, hhn, fun m h h1 => (by by_cases e : m < lo; exact HLo.out m h e; exact HR.out.mono key m md h hmn (by omega) (by rw [HKm.out]; exact HBt.out)), HHi.out, HB2.out⟩
        case measure => (try simp [Go.RowKit.intOf]); omega
      · have hbf : blt km key = false := by
          cases hh : blt km key with
          | false => rfl
          | true => exact absurd (HBl.out.mpr hh) hcm
        have HBf := hide hbf
        clear hbf
        go_wp2_with fail
        go_roundw
        case rel => exact ⟨lo, md, rfl, rfl, hm1, by omega, HLo.out, fun m h h1 => (by
          cases hh : blt es[m].1 key with
          | false => rfl
          | true =>
            have := HR.out.mono key md m hmn h h1 hh
            rw [HKm.out, HBf.out] at this
            cases this), HB2.out⟩
        case measure => (try simp [Go.RowKit.intOf]); omega
    · obtain rfl : lo = hi := by omega
      have HAt := hide (show At es key lo from ⟨hhn, HLo.out, HHi.out⟩)
      by_cases hlt2 : lo < es.length
      · obtain ⟨g, off, rfl, hg, hc⟩ := prs_at ((HM.out.below HBw.out).mono HBw.out.size) (by omega)
        obtain ⟨f0, f1⟩ := hc lo hlt2
        have HZ := hide (cmp_zero (es[lo]'hlt2).1 key)
        have HC := hide (findCmp_any b (es[lo]'hlt2).1 (es[lo]'hlt2).2 key wr ((HBw.out.cell (p := ⟨b, 0, none⟩) hbl).trans HF.out))
        generalize hcm : Lib.compareBytes (es[lo]'hlt2).1.data.toList key.data.toList = cm at HZ HC
        clear hc hcm
        generalize hkm : es[lo]'hlt2 = em at f0 f1 HC HZ
        have HKm := hide hkm
        clear hkm
        obtain ⟨km, vm⟩ := em
        go_wp2_with fail
        refine HC.out.mono ?_
        rintro e w' ⟨rfl, hb⟩
        have HB2 := hide (HBw.out.trans (hb.mono HBw.out.size))
        clear hb
        by_cases hcm : cm = 0
        · have HE := hide (HZ.out.mp hcm)
          subst hcm
          go_wp2_with fail
          exact bodyPost_ret (v := .tuple #[.int .i64 (lo : Int), .bool true]) (by simp [results, Tryz.results96, go_sem]) rfl ⟨lo, HAt.out, true, rfl, ⟨fun _ => ⟨hlt2, by rw [HKm.out]; exact HE.out⟩, fun _ => rfl⟩, HB2.out⟩
        · have hbe : (cm == 0) = false := beq_false_of_ne hcm
          have HE := hide (fun h => hcm (HZ.out.mpr h))
          clear hcm
          go_wp2_with fail
          exact bodyPost_ret (v := .tuple #[.int .i64 (lo : Int), .bool false]) (by simp [results, Tryz.results96, go_sem]) rfl ⟨lo, HAt.out, false, rfl, ⟨fun h => (by cases h), fun ⟨_, h⟩ => by rw [HKm.out] at h; exact absurd h HE.out⟩, HB2.out⟩
      · go_wp2_with fail
        exact bodyPost_ret (v := .tuple #[.int .i64 (lo : Int), .bool false]) (by simp [results, Tryz.results96, go_sem]) rfl ⟨lo, HAt.out, false, rfl, ⟨fun h => (by cases h), fun ⟨h, _⟩ => absurd h hlt2⟩, HBw.out⟩
theorem find_any (A : Option Addr) (c : Nat) (es : List Ent) (key : ByteArray) (w : World) (hm : Mem w w.heap.size A (pv es)) (hl : es.length ≤ 100000) (hr : RiseE es) :
    Calls Tryz.prog 68 #[.slice A es.length c, .string key, keyFn] w (BsRes es key w) := by
  have hb1 : Below w.heap.size w (w.alloc (.cells [keyFn].toArray 135)) := (Below.refl _ _).alloc (Nat.le_refl _) _
  have HB := hide hb1
  have HS := hide (bsearch_any A c w.heap.size es key (w.alloc (.cells [keyFn].toArray 135)) ((hm.below hb1).mono hb1.size) hl hr ((Whole.new w [keyFn] 135).cell 0))
  clear hm hr hb1
  unfold keyFn cmpFn at *
  go_enter Tryz.func68, Tryz.ntmps68
  go_wp2_with fail
  refine HS.out.mono ?_
  rintro e w' ⟨i, hat, f, rfl, hf, hb⟩
  have HX := hide (And.intro hat (And.intro hf (HB.out.trans (hb.mono HB.out.size))))
  clear hat hf hb
  go_wp2_with fail
  exact bodyPost_ret (v := .tuple #[.int .i64 (i : Int), .bool f]) (by simp [results, Tryz.results68, go_sem]) rfl ⟨i, HX.out.1, f, rfl, HX.out.2.1, HX.out.2.2⟩
/-- a book, as the program has it -/
def bkV (A : Option Addr) (n c : Nat) : Value := .agg #[.slice A n c]
theorem at_any (A : Option Addr) (c : Nat) (es : List Ent) (key : ByteArray) (w : World) (hm : Mem w w.heap.size A (pv es)) (hl : es.length ≤ 100000) (hr : RiseE es) :
    Calls Tryz.prog 34 #[bkV A es.length c, .string key] w (BsRes es key w) := by
  have hb1 : Below w.heap.size w (w.alloc (.cells [Value.slice A es.length c].toArray 25)) := (Below.refl _ _).alloc (Nat.le_refl _) _
  have HB := hide hb1
  have c0 := (Whole.new w [Value.slice A es.length c] 25).cell 0
  simp only [List.getElem?_cons_zero] at c0
  have HS := hide (find_any A c es key (w.alloc (.cells [Value.slice A es.length c].toArray 25)) ((hm.below hb1).mono hb1.size) hl hr)
  clear hm hr hb1
  unfold keyFn at *
  unfold bkV
  go_enter Tryz.func34, Tryz.ntmps34
  go_wp2_with fail
  refine HS.out.mono ?_
  rintro e w' ⟨i, hat, f, rfl, hf, hb⟩
  have HX := hide (And.intro hat (And.intro hf (HB.out.trans (hb.mono HB.out.size))))
  clear hat hf hb
  go_wp2_with fail
  exact bodyPost_ret (v := .tuple #[.int .i64 (i : Int), .bool f]) (by simp [results, Tryz.results34, go_sem]) rfl ⟨i, HX.out.1, f, rfl, HX.out.2.1, HX.out.2.2⟩
end Go.Proofs.YtokibbgahefkbaaGreatDoor.Fe
namespace Go.Proofs.YtokibbgahefkbaaGreatDoor.Fe
open Go.RowKit Go.Shelf

theorem infoPair : (Tryz.prog.info? 86).map (fun i => (i.zero, i.size, i.bytes)) = some (some (.agg #[.string ByteArray.empty, .string ByteArray.empty]), 2, 32) := by kernel_rfl
/-- a copy of pairs, in a row of its own -/
def CopiedP (es : List Ent) (w : World) (e : Ending) (w' : World) : Prop := ∃ v', e = .returned v' ∧ w'.ownsRow w.heap.size 86 2 v' es.length (pv es) ∧ Below w.heap.size w w'
set_option maxHeartbeats 1000000 in
set_option maxRecDepth 20000 in
theorem cloneP_any (A : Option Addr) (es : List Ent) (c : Nat) (w : World) (hm : Mem w w.heap.size A (pv es)) (hl : es.length ≤ 1000000) :
    Calls Tryz.prog 39 #[.slice A es.length c] w (CopiedP es w) := by
  obtain ⟨i0, hi, hz0, hz1, hz2⟩ := info_parts infoPair
  have q57 : ∀ (w : World) (a : Option Addr) (n c n' c' : Nat), (binOp .eql 23 (.slice a n c) (.slice none n' c')).run Tryz.prog w = .ok (.bool a.isNone) w := fun w a n c n' c' => Go.Lib.run_eql_slice_nil w _ _ a n c n' c' Tryz.underlying23
  have HM := hide hm
  clear hm
  cases A with
  | none =>
    have hx : es = [] := by
      by_cases h : 0 < es.length
      · obtain ⟨_, _, h, _⟩ := HM.out.get (by rw [pv_len]; omega)
        cases h
      · exact List.eq_nil_of_length_eq_zero (by omega)
    subst hx
    go_enter Tryz.func39, Tryz.ntmps39
    go_wp2
    go_ret
    exact ⟨_, rfl, ⟨by simp [pv], .inl ⟨rfl, rfl⟩⟩, Below.refl _ _⟩
  | some ad =>
    have HO := hide (World.ownsRow_lit (base := w.heap.size) (e := 86) (size := 2) w #[] 0 (Nat.le_refl _) (by decide) rfl)
    have HM2 := hide ((HM.out.below ((Below.refl w.heap.size w).alloc (Nat.le_refl _) (.cells #[] 86))).mono (by simp : w.heap.size ≤ (w.alloc (.cells #[] 86)).heap.size))
    go_enter Tryz.func39, Tryz.ntmps39
    go_wp2_with (refine wpList_app _ rfl _ _ 23 rfl w.heap.size 86 i0 (.agg #[.string ByteArray.empty, .string ByteArray.empty]) 2 32 Tryz.underlying23 hi hz0 hz1 hz2 rfl (by decide) (.slice (some ⟨w.heap.size, 0, none⟩) 0 0) 0 [] rfl HO.out (some ad) es.length c (pv es) rfl ?c1 HM2.out (pv_one _) ?c2 ?c3 (by simp) ?_)
    case c1 => exact pv_len es
    case c2 => unfold maxLen; omega
    case c3 => omega
    intro A' c' w' ho hg _
    have HO2 := hide ho
    have HB := hide (((Below.refl w.heap.size w).alloc (Nat.le_refl _) (.cells #[] 86)).grown hg (by simp) (fun g hg => by cases hg; exact Nat.le_refl _))
    clear ho hg
    go_wp2
    go_ret
    exact ⟨_, rfl, HO2.out, HB.out⟩
theorem len_any (A : Option Addr) (n c : Nat) (w : World) : Calls Tryz.prog 19 #[bkV A n c] w fun e w' => e = .returned (.int .i64 (n : Int)) ∧ Below w.heap.size w w' := by
  have c0 := (Whole.new w [Value.slice A n c] 25).cell 0
  simp only [List.getElem?_cons_zero] at c0
  have HB := hide (show Below w.heap.size w (w.alloc (.cells [Value.slice A n c].toArray 25)) from (Below.refl _ _).alloc (Nat.le_refl _) _)
  unfold bkV
  go_enter Tryz.func19, Tryz.ntmps19
  go_wp2
  go_ret
  exact ⟨rfl, HB.out⟩
/-- a key's value, and whether there is one -/
def getV (es : List Ent) (key : ByteArray) : Value := match lookup es key with
  | some v => .tuple #[.string v, .bool true]
  | none => .tuple #[.string ByteArray.empty, .bool false]
theorem get_any (A : Option Addr) (c : Nat) (es : List Ent) (key : ByteArray) (w : World) (hm : Mem w w.heap.size A (pv es)) (hl : es.length ≤ 100000) (hr : RiseE es) :
    Calls Tryz.prog 12 #[bkV A es.length c, .string key] w fun e w' => e = .returned (getV es key) ∧ Below w.heap.size w w' := by
  have hb1 : Below w.heap.size w (w.alloc (.cells [Value.slice A es.length c].toArray 25)) := (Below.refl _ _).alloc (Nat.le_refl _) _
  have hw := Whole.new w [Value.slice A es.length c] 25
  have c0 := hw.cell 0
  simp only [List.getElem?_cons_zero] at c0
  have HA := hide (at_any A c es key (w.alloc (.cells [Value.slice A es.length c].toArray 25)) ((hm.below hb1).mono hb1.size) hl hr)
  have HB := hide hb1
  have HM := hide hm
  have HR := hide hr
  have HW := hide hw
  clear hm hr hb1 hw
  unfold bkV at *
  go_enter Tryz.func12, Tryz.ntmps12
  go_wp2_with fail
  refine HA.out.mono ?_
  rintro e w2 ⟨i, hat, f, rfl, hf, hb⟩
  have hw2 : Whole w2 w.heap.size 25 [Value.slice A es.length c] := HW.out.below hb HW.out.lt
  have HB2 := hide (HB.out.trans (hb.mono HB.out.size))
  have c2 := hw2.cell 0
  simp only [List.getElem?_cons_zero] at c2
  have HAt := hide hat
  have HF := hide hf
  clear hb hat hf hw2 c0
  cases f with
  | false =>
    have hn : lookup es key = none := lookup_miss (HAt.out.all (fun h e => by
      have := HF.out.mpr ⟨h, e⟩
      cases this) HR.out)
    have HN := hide hn
    clear hn
    go_wp2_with fail
    exact bodyPost_ret (v := .tuple #[.string ⟨#[]⟩, .bool false]) (by simp [results, Tryz.results12, go_sem]) rfl ⟨by rw [getV, HN.out]; rfl, HB2.out⟩
  | true =>
    obtain ⟨hi, he⟩ := HF.out.mp rfl
    have HL := hide (show lookup es key = some es[i].2 from he ▸ lookup_hit HR.out hi)
    obtain ⟨g, off, rfl, hg, hc⟩ := prs_at ((HM.out.below HB2.out).mono HB2.out.size) (by omega)
    obtain ⟨f0, f1⟩ := hc i hi
    clear hc he
    generalize hv : es[i].2 = vv at f1 HL
    clear hv f0
    go_wp2_with fail
    exact bodyPost_ret (v := .tuple #[.string vv, .bool true]) (by simp [results, Tryz.results12, go_sem]) rfl ⟨by rw [getV, HL.out], HB2.out⟩
end Go.Proofs.YtokibbgahefkbaaGreatDoor.Fe
namespace Go.Proofs.YtokibbgahefkbaaGreatDoor.Fe
open Go.RowKit Go.Shelf

theorem beq_str_ne {a b : ByteArray} (h : a ≠ b) : (a.toList == b.toList) = false := by
  rw [toList_eq, toList_eq]
  exact beq_false_of_ne fun e => h (bytes_ext e)
/-- where a key is; below 0: nowhere -/
def AtR (es : List Ent) (key : ByteArray) (r : Int) : Prop := (r = -1 ∧ ∀ m (h : m < es.length), es[m].1 ≠ key) ∨ ∃ i : Nat, r = (i : Int) ∧ ∃ h : i < es.length, es[i].1 = key
set_option maxHeartbeats 1000000 in
theorem rat_any (A : Option Addr) (c : Nat) (es : List Ent) (key : ByteArray) (w : World) (hm : Mem w w.heap.size A (pv es)) (hl : es.length ≤ 100000) :
    Calls Tryz.prog 35 #[.slice A es.length c, .string key] w fun e w' => ∃ r, e = .returned (.int .i64 r) ∧ AtR es key r ∧ w = w' := by
  have HM := hide hm
  clear hm
  go_enter Tryz.func35, Tryz.ntmps35
  go_upto_region 2 with fail
  go_loopw [5] (fun x wr => ∃ j : Nat, j ≤ es.length ∧ x = .int .i64 j ∧ (∀ m (h : m < es.length), m < j → es[m].1 ≠ key) ∧ w = wr) (fun x _ => es.length - (Go.RowKit.intOf x).toNat)
  case atStart => exact ⟨0, Nat.zero_le _, rfl, fun m h h0 => absurd h0 (Nat.not_lt_zero _), rfl⟩
  case round =>
    obtain ⟨j, hj, rfl, hlo, rfl⟩ := hrel
    have HLo := hide hlo
    clear hlo
    by_cases hlt : j < es.length
    · obtain ⟨g, off, rfl, hg, hc⟩ := prs_at HM.out (by omega)
      obtain ⟨f0, f1⟩ := hc j hlt
      clear hc f1
      by_cases heq : es[j].1 = key
      · have HE := hide heq
        rw [heq] at f0
        clear heq
        go_wp2_with fail
        go_ret
        exact ⟨_, rfl, .inr ⟨j, rfl, hlt, HE.out⟩, rfl⟩
      · have hbe := beq_str_ne heq
        have HE := hide heq
        clear heq
        generalize hk : es[j].1 = kj at f0 hbe
        have HK := hide hk
        clear hk
        go_wp2_with fail
        go_roundw
        case rel => exact ⟨j + 1, by omega, by go_num, fun m h h1 => (by by_cases e : m < j; exact HLo.out m h e; obtain rfl : m = j := (by omega); exact HE.out), by trivial⟩
        case measure => (try simp [Go.RowKit.intOf]); omega
    · go_wp2_with fail
      go_ret
      exact ⟨-1, rfl, .inl ⟨rfl, fun m h => HLo.out m h (by omega)⟩, rfl⟩
theorem AtR.get {es : List Ent} {key : ByteArray} {r : Int} (h : AtR es key r) (hr : RiseE es) : (r = -1 ∧ lookup es key = none) ∨ ∃ i : Nat, r = (i : Int) ∧ ∃ h : i < es.length, lookup es key = some es[i].2 := by
  rcases h with ⟨h1, h2⟩ | ⟨i, h1, h2, h3⟩
  · exact .inl ⟨h1, lookup_miss h2⟩
  · exact .inr ⟨i, h1, h2, h3 ▸ lookup_hit hr h2⟩
theorem rget_any (A : Option Addr) (c : Nat) (es : List Ent) (key : ByteArray) (w : World) (hm : Mem w w.heap.size A (pv es)) (hl : es.length ≤ 100000) (hr : RiseE es) :
    Calls Tryz.prog 13 #[.slice A es.length c, .string key] w fun e w' => e = .returned (getV es key) ∧ w = w' := by
  have HA := hide (rat_any A c es key w hm hl)
  have HM := hide hm
  have HR := hide hr
  clear hm hr
  go_enter Tryz.func13, Tryz.ntmps13
  go_wp2_with fail
  refine HA.out.mono ?_
  rintro e w2 ⟨r, rfl, ha, rfl⟩
  rcases ha.get HR.out with ⟨rfl, hn⟩ | ⟨i, rfl, hi, hv⟩
  · have HN := hide hn
    clear hn ha
    go_wp2_with fail
    exact bodyPost_ret (v := .tuple #[.string ⟨#[]⟩, .bool false]) (by simp [results, Tryz.results13, go_sem]) rfl ⟨by rw [getV, HN.out]; rfl, rfl⟩
  · have HV := hide hv
    obtain ⟨g, off, rfl, hg, hc⟩ := prs_at HM.out (by omega)
    obtain ⟨f0, f1⟩ := hc i hi
    clear hc f0 hv ha
    generalize hvv : es[i].2 = vv at f1 HV
    clear hvv
    go_wp2_with fail
    exact bodyPost_ret (v := .tuple #[.string vv, .bool true]) (by simp [results, Tryz.results13, go_sem]) rfl ⟨by rw [getV, HV.out], rfl⟩
theorem infoPair2 : (Tryz.prog.info? 81).map (fun i => (i.zero, i.size, i.bytes)) = some (some (.agg #[.string ByteArray.empty, .string ByteArray.empty]), 2, 32) := by kernel_rfl
/-- pairs, in a row of their own -/
def RowP (es : List Ent) (w : World) (e : Ending) (w' : World) : Prop := ∃ v', e = .returned v' ∧ w'.ownsRow w.heap.size 81 2 v' es.length (pv es) ∧ Below w.heap.size w w'
theorem delE_take {es : List Ent} {key : ByteArray} {j : Nat} (h : j < es.length) : delE (es.take (j + 1)) key = if es[j].1 = key then delE (es.take j) key else delE (es.take j) key ++ [es[j]] := by
  rw [List.take_succ_eq_append_getElem h]
  unfold delE
  rw [List.filter_append]
  by_cases e : es[j].1 = key <;> simp [e]
set_option maxHeartbeats 2000000 in
set_option maxRecDepth 20000 in
theorem rwithout_any (A : Option Addr) (c : Nat) (es : List Ent) (key : ByteArray) (w : World) (hm : Mem w w.heap.size A (pv es)) (hl : es.length ≤ 100000) :
    Calls Tryz.prog 33 #[.slice A es.length c, .string key] w (RowP (delE es key) w) := by
  obtain ⟨i0, hi, hz0, hz1, hz2⟩ := info_parts infoPair2
  have HM := hide hm
  clear hm
  go_enter Tryz.func33, Tryz.ntmps33
  go_upto_region 3 with fail
  go_loopw [5, 6] (fun x y wr => ∃ j : Nat, j ≤ es.length ∧ y = .int .i64 j ∧ wr.ownsRow w.heap.size 81 2 x (delE (es.take j) key).length (pv (delE (es.take j) key)) ∧ Below w.heap.size w wr) (fun _ y _ => es.length - (Go.RowKit.intOf y).toNat)
  case atStart => exact ⟨0, Nat.zero_le _, rfl, ⟨by simp [pv, delE], .inl ⟨rfl, rfl⟩⟩, Below.refl _ _⟩
  case round =>
    obtain ⟨j, hj, rfl, hown, hb⟩ := hrel
    have HO := hide hown
    have HB := hide hb
    clear hown hb
    by_cases hlt : j < es.length
    · obtain ⟨g, off, rfl, hg, hc⟩ := prs_at ((HM.out.below HB.out).mono HB.out.size) (by omega)
      obtain ⟨f0, f1⟩ := hc j hlt
      have HD := hide (delE_take (es := es) (key := key) hlt)
      have hlen : (delE (es.take j) key).length ≤ 100000 := Nat.le_trans (List.length_filter_le _ _) (by rw [List.length_take]; omega)
      clear hc
      by_cases heq : es[j].1 = key
      · have HE := hide heq
        rw [heq] at f0
        clear heq f1
        go_wp2_with fail
        go_roundw
        case rel => exact ⟨j + 1, by omega, by go_num, by rw [HD.out, if_pos HE.out]; exact HO.out, HB.out⟩
        case measure => (try simp [Go.RowKit.intOf]); omega
      · have hbe := beq_str_ne heq
        have HE := hide heq
        clear heq
        generalize hk : es[j] = ej at f0 f1 hbe
        have HK := hide hk
        clear hk
        obtain ⟨kj, vj⟩ := ej
        generalize hds : delE (es.take j) key = ds at HO hlen
        have HDs := hide hds
        clear hds
        obtain ⟨A', c', hx⟩ := owns_slice HO.out
        subst hx
        have hb2 : Below wr.heap.size wr (wr.alloc (.cells [Value.string kj, Value.string vj].toArray 81)) := (Below.refl _ _).alloc (Nat.le_refl _) _
        have hw2 := Whole.new wr [Value.string kj, Value.string vj] 81
        have HO1 := hide (owns_block HO.out (fun g hg => hb2.block g (HO.out.lt g hg).2))
        have HM1 := hide (hw2.mem)
        have HB2 := hide (HB.out.trans (hb2.mono HB.out.size))
        clear hb2 hw2
        go_wp2_with (refine wpList_app _ rfl _ _ 30 rfl w.heap.size 81 i0 (.agg #[.string ByteArray.empty, .string ByteArray.empty]) 2 32 Tryz.underlying30 hi hz0 hz1 hz2 rfl (by decide) (.slice A' ds.length c') ds.length (pv ds) rfl HO1.out (some ⟨wr.heap.size, 0, none⟩) 1 1 [Value.string kj, Value.string vj] rfl rfl HM1.out ?c1 ?c2 ?c3 ?c4 ?_)
        case c1 => exact ⟨rfl, rfl⟩
        case c2 => unfold maxLen; omega
        case c3 => omega
        case c4 => have := HB.out.size; omega
        intro A2 c2 w2 ho hg _
        have HO2 := hide ho
        have HB3 := hide (HB2.out.grown hg HB2.out.size (fun g hg => (HO1.out.lt g hg).1))
        clear ho hg
        go_wp2_with fail
        go_roundw
        case rel => exact ⟨j + 1, by omega, by go_num, by
          rw [HD.out, if_neg HE.out, HDs.out, HK.out, List.length_append, pv_app]
          exact HO2.out, HB3.out⟩
        case measure => (try simp [Go.RowKit.intOf]); omega
    · obtain rfl : j = es.length := by omega
      have ho := HO.out
      rw [List.take_length] at ho
      have HO9 := hide ho
      clear ho
      go_wp2_with fail
      go_ret
      exact ⟨_, rfl, HO9.out, HB.out⟩
end Go.Proofs.YtokibbgahefkbaaGreatDoor.Fe
namespace Go.Proofs.YtokibbgahefkbaaGreatDoor.Fe
open Go.RowKit Go.Shelf Go.Lib

theorem Below.setCells {B : Nat} {a : World} {b : Nat} (hb : B ≤ b) : ∀ (vs : List Value) (o : Nat) (w : World), Below B a w → Below B a (w.setCells b o vs)
  | [], _, _, h => h
  | _ :: r, o, _, h => Below.setCells hb r (o + 1) _ (h.setCell (p := ⟨b, o, none⟩) hb _)
/-- copy(d, s), elements of two cells -/
theorem run_copy_cells2 {P : Program} (w : World) (dT sT ty elem : TypeId) (b o dLen dCap : Nat) (a : Addr) (sLen sCap m : Nat) (cs : List Value)
    (hu : P.underlying dT = some (.slice elem)) (hs : (P.info? elem).map (·.size) = some 2) (hm : m = Nat.min sLen dLen) (hn : cs.length = m * 2)
    (hsrc : ∀ j v, cs[j]? = some v → w.cell? (a.add j) = some v) (hc : ∀ j, j < cs.length → (w.cell? ⟨b, o + j, none⟩).isSome = true) (hf : ∀ j, j < cs.length → w.frozen? ⟨b, o + j, none⟩ = false) (h1 : ∀ v ∈ cs, v.oneCell' = true) :
    (Builtin.copy_ #[dT, sT] ty #[.slice (some ⟨b, o, none⟩) dLen dCap, .slice (some a) sLen sCap]).run P w = .ok (goInt m) (w.setCells b o cs) := by
  have hl := run_loadCells_list (P := P) w a cs hsrc
  have hst := run_storeCells_cells (P := P) b o cs 0 w (by simpa using hc) (by simpa using hf) h1
  rw [hn] at hl
  cases hq : P.info? elem with
  | none => simp [hq] at hs
  | some i =>
    have hi : i.size = 2 := by simpa [hq] using hs
    simp [Builtin.copy_, run_underlying hu, Builtin.lenOf, Builtin.firstCells, sizeOf, typeInfo, hq, hi, ← hm, hl, hst]
theorem mem_three {w : World} {g B : Nat} {a b c : List Value} (hg : g < B) (ha : ∀ t, t < a.length → w.cell? ⟨g, t, none⟩ = a[t]?) (hb : ∀ t, t < b.length → w.cell? ⟨g, a.length + t, none⟩ = b[t]?) (hc : ∀ t, t < c.length → w.cell? ⟨g, a.length + b.length + t, none⟩ = c[t]?) :
    Mem w B (some ⟨g, 0, none⟩) (a ++ (b ++ c)) := fun _ => ⟨g, 0, rfl, hg, fun t ht => by
  rw [Nat.zero_add, ← List.getElem?_eq_getElem ht]
  rw [List.length_append, List.length_append] at ht
  by_cases h1 : t < a.length
  · rw [List.getElem?_append_left h1, ha t h1]
  · rw [List.getElem?_append_right (by omega)]
    by_cases h2 : t - a.length < b.length
    · rw [List.getElem?_append_left h2, ← hb _ h2]
      congr 2
      omega
    · rw [List.getElem?_append_right (by omega), ← hc _ (by omega)]
      congr 2
      omega⟩
theorem pv_take' (es : List Ent) (j : Nat) (h : j ≤ es.length) : pv (es.take j) = (pv es).take (j * 2) := by
  have h1 : pv es = pv (es.take j) ++ pv (es.drop j) := by rw [← pv_app, List.take_append_drop]
  have h2 : (pv (es.take j)).length = j * 2 := by rw [pv_len, List.length_take]; omega
  have h3 : (pv (es.take j) ++ pv (es.drop j)).take (j * 2) = pv (es.take j) := by rw [← h2]; exact List.take_left
  rw [← h1] at h3
  exact h3.symm
theorem pv_drop' (es : List Ent) (j : Nat) (h : j ≤ es.length) : pv (es.drop j) = (pv es).drop (j * 2) := by
  have h1 : pv es = pv (es.take j) ++ pv (es.drop j) := by rw [← pv_app, List.take_append_drop]
  have h2 : (pv (es.take j)).length = j * 2 := by rw [pv_len, List.length_take]; omega
  have h3 : (pv (es.take j) ++ pv (es.drop j)).drop (j * 2) = pv (es.drop j) := by rw [← h2]; exact List.drop_left
  rw [← h1] at h3
  exact h3.symm
def insP (es : List Ent) (i : Nat) (e : Ent) : List Ent := es.take i ++ e :: es.drop i
theorem pv_insP (es : List Ent) (i : Nat) (e : Ent) (hi : i ≤ es.length) : pv (insP es i e) = pv (es.take i) ++ ([.string e.1, .string e.2] ++ pv (es.drop i)) := by
  unfold insP
  rw [pv_app, pv_cons]
  rfl
def InsPQ (base n : Nat) (es : List Ent) (w : World) (e : Ending) (w' : World) : Prop := ∃ A c, e = .returned (.slice A n c) ∧ w'.ownsRow base 86 2 (.slice A n c) n (pv es) ∧ Below base w w'
/-- a block whose cells are stored into stays a row of so many cells -/
theorem setCells_block (b : Nat) (t : TypeId) (fz : Nat × Nat) : ∀ (vs : List Value) (o : Nat) (w : World) (cur : Array Value), w.heap[b]? = some (.cells cur t fz) → ∃ cur', (w.setCells b o vs).heap[b]? = some (.cells cur' t fz) ∧ cur'.size = cur.size
  | [], _, _, cur, h => ⟨cur, h, rfl⟩
  | v :: r, o, w, cur, h => by
    obtain ⟨c2, h1, h2⟩ := setCells_block b t fz r (o + 1) (w.setCell ⟨b, o, none⟩ v) (cur.setIfInBounds o v) (by simp [World.setCell, Array.getElem?_modify, h])
    exact ⟨c2, h1, by rw [h2, Array.size_setIfInBounds]⟩
/-- a row whose cells are known is an own row -/
theorem owns_of_mem {w : World} {base g n c B : Nat} {cur : Array Value} {xs : List Value} (hm : Mem w B (some ⟨g, 0, none⟩) xs) (hg : w.heap[g]? = some (.cells cur 86 (0, 0))) (hs : cur.size = c * 2) (hx : xs.length = n * 2) (hb : base ≤ g) (hn : n ≤ c) (hc : c ≤ maxLen) :
    w.ownsRow base 86 2 (.slice (some ⟨g, 0, none⟩) n c) n xs := by
  refine ⟨hx, .inr ⟨g, c, cur, rfl, hb, hg, hn, hc, hs, ?_⟩⟩
  apply List.ext_getElem?
  intro k
  by_cases hk : k < n * 2
  · rw [List.getElem?_take_of_lt hk, Array.getElem?_toList]
    obtain ⟨b, off, e, _, hcell⟩ := hm (by omega)
    injection e with e
    injection e with e1 e2 _
    subst e1 e2
    have h1 := hcell k (by omega)
    simp only [World.cell?, hg, Nat.zero_add] at h1
    exact h1.trans (List.getElem?_eq_getElem _).symm
  · rw [List.getElem?_eq_none (by rw [List.length_take, Array.length_toList]; omega), List.getElem?_eq_none (by omega)]
/-- behind the two copies -/
theorem ins_mem {W : World} {g i : Nat} {es : List Ent} {e : Ent} (hi : i ≤ es.length)
    (hold : ∀ t, t < i * 2 → W.cell? ⟨g, t, none⟩ = (pv (es.take i))[t]?)
    (hsome : ∀ t, t < (es.length + 1) * 2 → (W.cell? ⟨g, t, none⟩).isSome = true) (hg : g < W.heap.size) (B : Nat) (hB : B ≤ g) :
    Mem ((W.setCells g ((i + 1) * 2) (pv (es.drop i))).setCells g (i * 2) [.string e.1, .string e.2]) ((W.setCells g ((i + 1) * 2) (pv (es.drop i))).setCells g (i * 2) [.string e.1, .string e.2]).heap.size (some ⟨g, 0, none⟩) (pv (insP es i e)) ∧
      Mem ((W.setCells g (i * 2) [.string e.1, .string e.2]).setCells g ((i + 1) * 2) (pv (es.drop i))) ((W.setCells g (i * 2) [.string e.1, .string e.2]).setCells g ((i + 1) * 2) (pv (es.drop i))).heap.size (some ⟨g, 0, none⟩) (pv (insP es i e)) := by
  have hl1 : (pv (es.take i)).length = i * 2 := by rw [pv_len, List.length_take]; omega
  have hl2 : (pv (es.drop i)).length = (es.length - i) * 2 := by rw [pv_len, List.length_drop]
  have hz : ∀ (w : World) (vs : List Value) (o : Nat), w.heap.size ≤ (w.setCells g o vs).heap.size := fun w vs o => (Below.setCells (B := 0) (a := w) (Nat.zero_le _) vs o w (Below.refl _ _)).size
  rw [pv_insP es i e hi]
  have h2 : ([.string e.1, .string e.2] : List Value).length = 2 := rfl
  constructor
  · have hs1 : ∀ t, t < (es.length + 1) * 2 → ((W.setCells g ((i + 1) * 2) (pv (es.drop i))).cell? ⟨g, t, none⟩).isSome = true := fun t ht => isSome_setCells g _ _ W (fun j hj => hsome _ (by omega)) t (hsome t ht)
    refine mem_three (Nat.lt_of_lt_of_le hg (Nat.le_trans (hz _ _ _) (hz _ _ _))) (fun t ht => ?_) (fun t ht => ?_) (fun t ht => ?_)
    · rw [World.cell?_setCells_out g _ _ _ _ (fun _ _ => by show t < _ ∨ _; omega), World.cell?_setCells_out g _ _ _ _ (fun _ _ => by show t < _ ∨ _; omega)]
      exact hold t (by omega)
    · rw [hl1, World.cell?_setCells_in g _ _ _ (fun j hj => hs1 _ (by rw [h2] at hj; omega)) t ht, List.getElem?_eq_getElem ht]
    · rw [hl1, h2, World.cell?_setCells_out g _ _ _ _ (fun _ _ => by show _ ∨ _ ≤ i * 2 + 2 + t; rw [h2]; omega), show i * 2 + 2 + t = (i + 1) * 2 + t by omega,
        World.cell?_setCells_in g _ _ _ (fun j hj => hsome _ (by omega)) t ht, List.getElem?_eq_getElem ht]
  · have hs1 : ∀ t, t < (es.length + 1) * 2 → ((W.setCells g (i * 2) [.string e.1, .string e.2]).cell? ⟨g, t, none⟩).isSome = true := fun t ht => isSome_setCells g _ _ W (fun j hj => hsome _ (by rw [h2] at hj; omega)) t (hsome t ht)
    refine mem_three (Nat.lt_of_lt_of_le hg (Nat.le_trans (hz _ _ _) (hz _ _ _))) (fun t ht => ?_) (fun t ht => ?_) (fun t ht => ?_)
    · rw [World.cell?_setCells_out g _ _ _ _ (fun _ _ => by show t < _ ∨ _; omega), World.cell?_setCells_out g _ _ _ _ (fun _ _ => by show t < _ ∨ _; omega)]
      exact hold t (by omega)
    · rw [hl1, World.cell?_setCells_out g _ _ _ _ (fun _ _ => by show i * 2 + t < _ ∨ _; rw [h2] at ht; omega), World.cell?_setCells_in g _ _ _ (fun j hj => hsome _ (by rw [h2] at hj; omega)) t ht, List.getElem?_eq_getElem ht]
    · rw [hl1, h2, show i * 2 + 2 + t = (i + 1) * 2 + t by omega,
        World.cell?_setCells_in g _ _ _ (fun j hj => hs1 _ (by omega)) t ht, List.getElem?_eq_getElem ht]
/-- an own row of pairs, its cells -/
theorem owns_cells {w : World} {base n c g : Nat} {xs : List Value} (h : w.ownsRow base 86 2 (.slice (some ⟨g, 0, none⟩) n c) n xs) :
    base ≤ g ∧ g < w.heap.size ∧ n ≤ c ∧ c ≤ maxLen ∧ (∀ t, t < n * 2 → w.cell? ⟨g, t, none⟩ = xs[t]?) ∧ (∀ t, t < c * 2 → (w.cell? ⟨g, t, none⟩).isSome = true) ∧ (∀ t, w.frozen? ⟨g, t, none⟩ = false) ∧ w.shape? g = some (86, c * 2) := by
  rcases h.2 with ⟨e, _⟩ | ⟨g', cap, cur, e, hb, hg, h1, h2, h3, h4⟩
  · cases e
  · injection e with e1 _ e3
    injection e1 with e1
    injection e1 with e1
    subst e1 e3
    have hc : ∀ t, w.cell? ⟨g, t, none⟩ = cur[t]? := fun t => by simp [World.cell?, hg]
    refine ⟨hb, (Array.getElem?_eq_some_iff.1 hg).1, h1, h2, fun t ht => ?_, fun t ht => ?_, fun t => by simp [World.frozen?, hg], by simp [World.shape?, hg, h3]⟩
    · rw [hc, ← h4, List.getElem?_take_of_lt ht, Array.getElem?_toList]
    · rw [hc, Array.getElem?_eq_getElem (by omega)]
      rfl
theorem owns_curr {w : World} {base n c g : Nat} {xs : List Value} (h : w.ownsRow base 86 2 (.slice (some ⟨g, 0, none⟩) n c) n xs) : ∃ cur, w.heap[g]? = some (.cells cur 86 (0, 0)) ∧ cur.size = c * 2 := by
  rcases h.2 with ⟨e, _⟩ | ⟨g', cap, cur, e, hb, hg, h1, h2, h3, h4⟩
  · cases e
  · injection e with e1 _ e3
    injection e1 with e1
    injection e1 with e1
    subst e1 e3
    exact ⟨cur, hg, h3⟩
theorem insP_len (es : List Ent) (i : Nat) (e : Ent) (hi : i ≤ es.length) : (insP es i e).length = es.length + 1 := by
  unfold insP
  rw [List.length_append, List.length_cons, List.length_take, List.length_drop]
  omega
theorem owns_row {w : World} {base n : Nat} {e : TypeId} {size : Nat} {K : Value} {xs : List Value} (h : w.ownsRow base e size K n xs) (hn : 0 < n) : ∃ g c, K = .slice (some ⟨g, 0, none⟩) n c := by
  rcases h.2 with ⟨_, h0⟩ | ⟨g, c, _, e, _⟩
  · omega
  · exact ⟨g, c, e⟩
theorem pairSz : (Tryz.prog.info? 86).map (·.size) = some 2 := by kernel_rfl
theorem pairSize (w : World) : (Go.sizeOf 86).run Tryz.prog w = .ok 2 w := by
  obtain ⟨i0, hi, hz0, hz1, hz2⟩ := info_parts infoPair
  simp [sizeOf, typeInfo, hi, hz1]
set_option maxHeartbeats 2000000 in
set_option maxRecDepth 20000 in
/-- at the end: an append -/
theorem insertP_end (base n : Nat) (K : Value) (es : List Ent) (k v : ByteArray) (vb : Nat) (w : World) (hown : w.ownsRow base 86 2 K n (pv es)) (hv : Whole w vb 86 [.string k, .string v]) (hl : n ≤ 100000) (hb : base ≤ w.heap.size) :
    Calls Tryz.prog 40 #[K, .int .i64 (n : Int), .slice (some ⟨vb, 0, none⟩) 1 1] w (InsPQ base (n + 1) (es ++ [(k, v)]) w) := by
  obtain ⟨i0, hi, hz0, hz1, hz2⟩ := info_parts infoPair
  have HO := hide hown
  have HM := hide hv.mem
  have hcap : ∀ A c, K = .slice A n c → n ≤ c := fun A c e => by
    subst e
    rcases hown.2 with ⟨e1, h0⟩ | ⟨g, cap, cur, e1, _, _, h1, _⟩
    · omega
    · injection e1 with _ _ e3
      omega
  obtain ⟨A, c, rfl⟩ := owns_slice hown
  have hcap := hcap A c rfl
  clear hown hv
  go_enter Tryz.func40, Tryz.ntmps40
  cases A with
  | none =>
    have hn0 : n = 0 := by
      rcases HO.out.2 with ⟨_, h0⟩ | ⟨_, _, _, e, _⟩
      · exact h0
      · cases e
    subst hn0
    go_wp2_with (refine wpList_app _ rfl _ _ 23 rfl base 86 i0 (.agg #[.string ByteArray.empty, .string ByteArray.empty]) 2 32 Tryz.underlying23 hi hz0 hz1 hz2 rfl (by decide) _ 0 (pv es) rfl HO.out (some ⟨vb, 0, none⟩) 1 1 [.string k, .string v] rfl rfl HM.out ?c1 ?c2 ?c3 hb ?_)
    case c1 => exact fun u hu => by simp at hu; rcases hu with rfl | rfl <;> rfl
    case c2 => unfold maxLen; omega
    case c3 => omega
    intro A' c' w' ho hg hnew
    have HR := hide (show InsPQ base (0 + 1) (es ++ [(k, v)]) w (.returned (.slice A' (0 + 1) c')) w' from ⟨A', c', rfl, by rw [pv_app]; exact ho, (Below.refl _ _).grown hg hb (fun g h => (HO.out.lt g h).1)⟩)
    clear ho hg hnew
    go_wp2_with fail
    go_ret
    exact HR.out
  | some ad =>
    obtain ⟨ab, ao, asp⟩ := ad
    go_wp2_with (refine wpList_app _ rfl _ _ 23 rfl base 86 i0 (.agg #[.string ByteArray.empty, .string ByteArray.empty]) 2 32 Tryz.underlying23 hi hz0 hz1 hz2 rfl (by decide) _ n (pv es) rfl HO.out (some ⟨vb, 0, none⟩) 1 1 [.string k, .string v] rfl rfl HM.out (pv_one [(k, v)]) (by unfold maxLen; omega) (by omega) hb ?_)
    all_goals (
      intro A' c' w' ho hg hnew
      have HR := hide (show InsPQ base (n + 1) (es ++ [(k, v)]) w (.returned (.slice A' (n + 1) c')) w' from ⟨A', c', rfl, by rw [pv_app]; exact ho, (Below.refl _ _).grown hg hb (fun g h => (HO.out.lt g h).1)⟩)
      clear ho hg hnew
      go_wp2_with fail
      go_ret
      exact HR.out)
set_option maxHeartbeats 2000000 in
set_option maxRecDepth 20000 in
/-- there is room: in place -/
theorem insertP_shift (base c i g : Nat) (es : List Ent) (k v : ByteArray) (vb : Nat) (w : World) (hown : w.ownsRow base 86 2 (.slice (some ⟨g, 0, none⟩) es.length c) es.length (pv es)) (hv : Whole w vb 86 [.string k, .string v]) (hne : vb ≠ g) (hi : i < es.length) (hroom : es.length + 1 ≤ c) (hl : es.length ≤ 100000) :
    Calls Tryz.prog 40 #[.slice (some ⟨g, 0, none⟩) es.length c, .int .i64 (i : Int), .slice (some ⟨vb, 0, none⟩) 1 1] w (InsPQ base (es.length + 1) (insP es i (k, v)) w) := by
  obtain ⟨hbg, hgl, _, hcm, hcell, hsome, hfz, hsh⟩ := owns_cells hown
  have hld : (pv (es.drop i)).length = (es.length - i) * 2 := by rw [pv_len, List.length_drop]
  have hov : ∀ lb cb, (callFunc 72 #[.slice (some ⟨vb, 0, none⟩) 1 1, .slice (some ⟨g, (i + 1) * 2, none⟩) lb cb]).run Tryz.prog w = .ok (.value (.bool false)) w := fun lb cb => by
    rw [run_callFunc_extern Tryz.func72 (by kernel_rfl) (by kernel_rfl) (by kernel_rfl) (e := Extern.SlicesOverlaps.overlaps #[23, 23] #[4]) (by kernel_rfl),
      Lib.run_overlaps_apart w 23 4 86 Tryz.underlying23 2 pairSize ⟨vb, 0, none⟩ ⟨g, (i + 1) * 2, none⟩ 1 1 lb cb hne 86 86 2 (c * 2) (by unfold Whole at hv; simp [World.shape?, hv]) hsh (by omega) (hv.frozen 0) (hv.frozen 2)]
    rfl
  have hcp1 : ∀ ty dc sc, (Builtin.copy_ #[23, 23] ty #[.slice (some ⟨g, (i + 1) * 2, none⟩) (es.length - i) dc, .slice (some ⟨g, i * 2, none⟩) (es.length + 1 - i) sc]).run Tryz.prog w.drew = .ok (goInt ((es.length - i : Nat) : Int)) (w.drew.setCells g ((i + 1) * 2) (pv (es.drop i))) := fun ty dc sc =>
    run_copy_cells2 w.drew _ _ ty 86 g ((i + 1) * 2) (es.length - i) dc ⟨g, i * 2, none⟩ (es.length + 1 - i) sc (es.length - i) (pv (es.drop i)) Tryz.underlying23 pairSz (by simp only [Nat.min_def]; split <;> omega) hld
      (fun j u hj => by
        have hj2 : j < (es.length - i) * 2 := by
          have := (List.getElem?_eq_some_iff.1 hj).1
          omega
        rw [add_addr]
        show w.cell? _ = _
        rw [hcell _ (by omega), ← hj, pv_drop' es i (by omega), List.getElem?_drop])
      (fun j hj => hsome _ (by omega)) (fun j _ => hfz _) (pv_one _)
  obtain ⟨W1, hW1⟩ : ∃ W1, W1 = w.drew.setCells g ((i + 1) * 2) (pv (es.drop i)) := ⟨_, rfl⟩
  have hsp1 : ∀ t, t < (es.length + 1) * 2 → (W1.cell? ⟨g, t, none⟩).isSome = true := fun t ht => by
    rw [hW1]
    exact isSome_setCells g (pv (es.drop i)) ((i + 1) * 2) w.drew (fun j hj => hsome _ (by omega)) _ (hsome t (by omega))
  have hcp2 : ∀ ty dc, (Builtin.copy_ #[23, 23] ty #[.slice (some ⟨g, i * 2, none⟩) (es.length + 1 - i) dc, .slice (some ⟨vb, 0, none⟩) 1 1]).run Tryz.prog W1 = .ok (goInt 1) (W1.setCells g (i * 2) [.string k, .string v]) := fun ty dc =>
    run_copy_cells2 W1 _ _ ty 86 g (i * 2) (es.length + 1 - i) dc ⟨vb, 0, none⟩ 1 1 1 [.string k, .string v] Tryz.underlying23 pairSz (by simp only [Nat.min_def]; split <;> omega) rfl
      (fun j u hj => by
        rw [add_addr, hW1, World.cell?_setCells_out g _ _ _ _ (fun h _ => absurd h hne), Nat.zero_add]
        exact (hv.cell j).trans hj)
      (fun j hj => hsp1 _ (by have hj2 : j < 2 := hj; omega)) (fun j _ => by rw [hW1, World.frozen?_setCells]; exact hfz _) (fun u hu => by simp at hu; rcases hu with rfl | rfl <;> rfl)
  have hfin := (ins_mem (W := w.drew) (g := g) (i := i) (es := es) (e := (k, v)) (by omega) (fun t ht => by
      show w.cell? _ = _
      rw [hcell t (by omega), pv_take' es i (by omega), List.getElem?_take_of_lt ht]) (fun t ht => hsome t (by omega)) hgl base hbg).1
  have hbel : Below w.heap.size w w := Below.refl _ _
  have HR := hide (show InsPQ base (es.length + 1) (insP es i (k, v)) w (.returned (.slice (some ⟨g, 0, none⟩) (es.length + 1) c)) (W1.setCells g (i * 2) [.string k, .string v]) from
    ⟨_, c, rfl, by
      obtain ⟨cur, hgc, hcs⟩ := owns_curr hown
      obtain ⟨c1, h1, h2⟩ := setCells_block g 86 (0, 0) (pv (es.drop i)) ((i + 1) * 2) w.drew cur hgc
      obtain ⟨c2, h3, h4⟩ := setCells_block g 86 (0, 0) [.string k, .string v] (i * 2) _ c1 h1
      rw [hW1]
      exact owns_of_mem hfin h3 (by rw [h4, h2, hcs]) (by rw [pv_len, insP_len es i (k, v) (by omega)]) hbg hroom hcm, by rw [hW1]; exact Below.setCells hbg _ _ _ (Below.setCells hbg _ _ _ (Below.refl base w).drew)⟩)
  rw [← hW1] at hcp1
  have hz2 : ¬ ((i : Int) = (es.length : Int)) := by omega
  have hw1 : IntKind.i64.wrap ((i : Int) + 1) = (i : Int) + 1 := IntWalk.i64_in _ (by omega)
  have htn : ((i : Int) + 1).toNat = i + 1 := by omega
  have hb1 : (0 : Int) ≤ (i : Int) + 1 := by omega
  have hb2 : ¬ (c = i + 1) := by omega
  have hb3 : (i : Int) ≤ (es.length : Int) + 1 := by omega
  have hin : i ≤ es.length := by omega
  have hb4 : ¬ (c = i) := by omega
  have hc63 : c ≤ 9223372036854775807 := by unfold maxLen at hcm; omega
  clear hfin hsp1 hW1 hcell hsome hfz hsh hown hv hbel hcm hld
  generalize es.length = n at *
  go_enter Tryz.func40, Tryz.ntmps40
  go_wp2_with (simp only [hov])
  go_region_law (refine step_copy_runI rfl _ _ 23 23 rfl _ _ (by simp [Act.eval, Act.put]) (by simp [Act.eval, Act.put]) (hcp1 _ _ _) ?_)
  go_wp2_with (at_builtin; refine wpList_copy_runI _ rfl _ _ 23 23 rfl _ _ rfl rfl (hcp2 _ _) ?_)
  go_ret
  exact HR.out
theorem zeroCells_two (a b : Value) (k : Nat) : (Builtin.zeroCells #[a, b] k).size = k * 2 := by simp [Builtin.zeroCells]
set_option maxHeartbeats 4000000 in
set_option maxRecDepth 20000 in
/-- there is none: a new row -/
theorem insertP_grow (base c i g : Nat) (es : List Ent) (k v : ByteArray) (vb : Nat) (w : World) (hown : w.ownsRow base 86 2 (.slice (some ⟨g, 0, none⟩) es.length c) es.length (pv es)) (hv : Whole w vb 86 [.string k, .string v]) (hi : i < es.length) (hroom : c < es.length + 1) (hl : es.length ≤ 100000) (hb : base ≤ w.heap.size) :
    Calls Tryz.prog 40 #[.slice (some ⟨g, 0, none⟩) es.length c, .int .i64 (i : Int), .slice (some ⟨vb, 0, none⟩) 1 1] w (InsPQ base (es.length + 1) (insP es i (k, v)) w) := by
  obtain ⟨hbg, hgl, hnc, hcm, hcell, hsome, hfz, hsh⟩ := owns_cells hown
  obtain ⟨i0, hi0, hz0, hzs, hzb⟩ := info_parts infoPair
  have hld : (pv (es.drop i)).length = (es.length - i) * 2 := by rw [pv_len, List.length_drop]
  have hlt : (pv (es.take i)).length = i * 2 := by rw [pv_len, List.length_take]; omega
  have hik : i + (es.length + 1 - i) = es.length + 1 := by omega
  have hold : (Builtin.firstCells i0.size i (.slice (some ⟨g, 0, none⟩) i c)).run Tryz.prog w.drew = .ok (pv (es.take i)).toArray w.drew := by
    rw [hzs]
    exact run_firstCells_some w.drew 2 i ⟨g, 0, none⟩ i c (pv (es.take i)) hlt (fun j u hj => by
      have hj2 : j < i * 2 := by
        have := (List.getElem?_eq_some_iff.1 hj).1
        omega
      rw [add_addr, Nat.zero_add]
      show w.cell? _ = _
      rw [hcell _ (by omega), ← hj, pv_take' es i (by omega), List.getElem?_take_of_lt hj2])
  have hkk : (es.length : Int) + 1 - (i : Int) = ((es.length + 1 - i : Nat) : Int) := by omega
  have hrz : ∀ ty, (Builtin.append_ #[23, 3] ty #[.slice (some ⟨g, 0, none⟩) i c, .int .i64 ((es.length : Int) + 1 - (i : Int))]).run Tryz.prog w =
      .ok (.slice (some ⟨w.heap.size, 0, none⟩) (es.length + 1) (grownCap w (es.length + 1) c 86)) (w.drew.alloc (.cells ((pv (es.take i)).toArray ++ Builtin.zeroCells #[.string ByteArray.empty, .string ByteArray.empty] (es.length + 1 - i) ++ Builtin.zeroCells #[.string ByteArray.empty, .string ByteArray.empty] (grownCap w (es.length + 1) c 86 - (es.length + 1))) 86)) := fun ty => by
    have h := Lib.run_append_grow_zeros w 23 3 ty 86 i0 _ .i64 .i64 Tryz.underlying23 Tryz.underlying3 hi0 hz0 (some ⟨g, 0, none⟩) i c (pv (es.take i)) hold (es.length + 1 - i) (by omega) (by omega) (by omega) (by omega) (by rw [hzb]; omega) (by rw [hzb, hik]; exact growslice_fits hroom (by omega))
    rw [hik] at h
    rw [hkk]
    exact h
  obtain ⟨G, hG⟩ : ∃ G, G = grownCap w (es.length + 1) c 86 := ⟨_, rfl⟩
  obtain ⟨ROW, hROW⟩ : ∃ ROW : Array Value, ROW = (pv (es.take i)).toArray ++ Builtin.zeroCells #[.string ByteArray.empty, .string ByteArray.empty] (es.length + 1 - i) ++ Builtin.zeroCells #[.string ByteArray.empty, .string ByteArray.empty] (G - (es.length + 1)) := ⟨_, rfl⟩
  rw [← hG] at hrz
  rw [← hROW] at hrz
  have hRl : (es.length + 1) * 2 ≤ ROW.size := by
    rw [hROW, Array.size_append, Array.size_append, zeroCells_two, zeroCells_two, List.size_toArray, hlt]
    omega
  have hGn0 : es.length + 1 ≤ G := by rw [hG]; exact grownCap_ge w _ _ _
  have hRs : ROW.size = G * 2 := by
    rw [hROW, Array.size_append, Array.size_append, zeroCells_two, zeroCells_two, List.size_toArray, hlt]
    omega
  have hGm : G ≤ maxLen := by rw [hG]; exact grownCap_le_maxLen w (es.length + 1) c 86 (by unfold maxLen; omega)
  have hRo : ∀ t, t < i * 2 → ROW[t]? = (pv (es.take i))[t]? := fun t ht => by
    rw [hROW, Array.getElem?_append_left (by rw [Array.size_append, List.size_toArray, hlt]; omega), Array.getElem?_append_left (by rw [List.size_toArray, hlt]; exact ht), List.getElem?_toArray]
  obtain ⟨W1, hW1⟩ : ∃ W1, W1 = w.drew.alloc (.cells ROW 86) := ⟨_, rfl⟩
  rw [← hW1] at hrz
  have hNc : ∀ j, W1.cell? ⟨w.heap.size, j, none⟩ = ROW[j]? := fun j => by rw [hW1, World.cell?_alloc_at (w := w.drew) ROW _ w.heap.size j rfl]
  have hN : ∀ j, j < (es.length + 1) * 2 → (W1.cell? ⟨w.heap.size, j, none⟩).isSome = true := fun j hj => by
    rw [hNc, Array.getElem?_eq_getElem (by omega)]; rfl
  have hNf : ∀ j, W1.frozen? ⟨w.heap.size, j, none⟩ = false := fun j => by rw [hW1]; exact World.frozen?_alloc_at (w := w.drew) ROW _ w.heap.size j rfl
  have hOb : ∀ j u, w.cell? ⟨g, j, none⟩ = some u → W1.cell? ⟨g, j, none⟩ = some u := fun j u h => by rw [hW1, World.cell?_alloc_past (w := w.drew) _ g j hgl]; exact h
  have hOv : ∀ j u, w.cell? ⟨vb, j, none⟩ = some u → W1.cell? ⟨vb, j, none⟩ = some u := fun j u h => by rw [hW1, World.cell?_alloc_past (w := w.drew) _ vb j hv.lt]; exact h
  have hcpA : ∀ (W : World), (∀ x, W.cell? x = W1.cell? x) → (∀ x, W.frozen? x = W1.frozen? x) → ∀ ty dc, (Builtin.copy_ #[23, 23] ty #[.slice (some ⟨w.heap.size, i * 2, none⟩) (es.length + 1 - i) dc, .slice (some ⟨vb, 0, none⟩) 1 1]).run Tryz.prog W = .ok (goInt 1) (W.setCells w.heap.size (i * 2) [.string k, .string v]) := fun W hWc hWf ty dc =>
    run_copy_cells2 W _ _ ty 86 w.heap.size (i * 2) (es.length + 1 - i) dc ⟨vb, 0, none⟩ 1 1 1 [.string k, .string v] Tryz.underlying23 pairSz (by simp only [Nat.min_def]; split <;> omega) rfl
      (fun j u hj => by rw [add_addr, hWc, Nat.zero_add]; exact hOv _ u ((hv.cell j).trans hj))
      (fun j hj => by have hj2 : j < 2 := hj; rw [hWc]; exact hN _ (by omega)) (fun j hj => by rw [hWf]; exact hNf _) (fun u hu => by simp at hu; rcases hu with rfl | rfl <;> rfl)
  have hGn : es.length + 1 ≤ G := by rw [hG]; exact grownCap_ge w _ _ _
  have hG63 : G ≤ 9223372036854775807 := by
    have := grownCap_le_maxLen w (es.length + 1) c 86 (by unfold maxLen; omega)
    rw [← hG] at this
    unfold maxLen at this
    omega
  have hbN : g ≠ w.heap.size := by omega
  have hcpB : ∀ (W : World), (∀ x, W.cell? x = (W1.setCells w.heap.size (i * 2) [.string k, .string v]).cell? x) → (∀ x, W.frozen? x = (W1.setCells w.heap.size (i * 2) [.string k, .string v]).frozen? x) → ∀ ty dc sc, (Builtin.copy_ #[23, 23] ty #[.slice (some ⟨w.heap.size, (i + 1) * 2, none⟩) (es.length - i) dc, .slice (some ⟨g, i * 2, none⟩) (es.length - i) sc]).run Tryz.prog W = .ok (goInt ((es.length - i : Nat) : Int)) (W.setCells w.heap.size ((i + 1) * 2) (pv (es.drop i))) := fun W hWc hWf ty dc sc =>
    run_copy_cells2 W _ _ ty 86 w.heap.size ((i + 1) * 2) (es.length - i) dc ⟨g, i * 2, none⟩ (es.length - i) sc (es.length - i) (pv (es.drop i)) Tryz.underlying23 pairSz (by simp only [Nat.min_def]; split <;> omega) hld
      (fun j u hj => by
        have hj2 : j < (es.length - i) * 2 := by
          have := (List.getElem?_eq_some_iff.1 hj).1
          omega
        rw [add_addr, hWc, World.cell?_setCells_out _ _ _ _ _ (fun h _ => absurd h hbN)]
        refine hOb _ u ?_
        rw [hcell _ (by omega), ← hj, pv_drop' es i (by omega), List.getElem?_drop])
      (fun j hj => by rw [hWc]; exact isSome_setCells _ _ _ _ (fun t ht => hN _ (by have ht2 : t < 2 := ht; omega)) _ (hN _ (by omega)))
      (fun j hj => by rw [hWf, World.frozen?_setCells]; exact hNf _) (pv_one _)
  subst hW1
  have hfin := (ins_mem (W := (w.alloc (.cells ROW 86)).drew.drew) (g := w.heap.size) (i := i) (es := es) (e := (k, v)) (by omega) (fun t ht => (hNc t).trans (hRo t ht)) hN (by show w.heap.size < (w.alloc (.cells ROW 86)).heap.size; simp) base hb).2
  have hbb := Below.setCells hb (pv (es.drop i)) ((i + 1) * 2) _ (Below.setCells hb [.string k, .string v] (i * 2) ((w.alloc (.cells ROW 86)).drew.drew) ((((Below.refl base w).alloc hb _).drew).drew))
  have HR := hide (show InsPQ base (es.length + 1) (insP es i (k, v)) w (.returned (.slice (some ⟨w.heap.size, 0, none⟩) (es.length + 1) G)) (((w.alloc (.cells ROW 86)).drew.drew.setCells w.heap.size (i * 2) [.string k, .string v]).setCells w.heap.size ((i + 1) * 2) (pv (es.drop i))) from ⟨_, G, rfl, by
    obtain ⟨c1, h1, h2⟩ := setCells_block w.heap.size 86 (0, 0) [.string k, .string v] (i * 2) (w.alloc (.cells ROW 86)).drew.drew ROW (heap_alloc_new w _)
    obtain ⟨c2, h3, h4⟩ := setCells_block w.heap.size 86 (0, 0) (pv (es.drop i)) ((i + 1) * 2) _ c1 h1
    exact owns_of_mem hfin h3 (by rw [h4, h2, hRs]) (by rw [pv_len, insP_len es i (k, v) (by omega)]) hb hGn hGm, hbb⟩)
  have hE1 : ∀ x, ((w.alloc (.cells ROW 86)).drew).cell? x = (w.drew.alloc (.cells ROW 86)).cell? x := fun x => rfl
  have hE2 : ∀ x, ((w.alloc (.cells ROW 86)).drew).frozen? x = (w.drew.alloc (.cells ROW 86)).frozen? x := fun x => rfl
  have hF1 : ∀ x, (((w.alloc (.cells ROW 86)).drew.setCells w.heap.size (i * 2) [.string k, .string v]).drew).cell? x = ((w.drew.alloc (.cells ROW 86)).setCells w.heap.size (i * 2) [.string k, .string v]).cell? x := fun x => rfl
  have hF2 : ∀ x, (((w.alloc (.cells ROW 86)).drew.setCells w.heap.size (i * 2) [.string k, .string v]).drew).frozen? x = ((w.drew.alloc (.cells ROW 86)).setCells w.heap.size (i * 2) [.string k, .string v]).frozen? x := fun x => rfl
  have hz2 : ¬ ((i : Int) = (es.length : Int)) := by omega
  have hz3 : (c : Int) < (es.length : Int) + 1 := by omega
  have hw1 : IntKind.i64.wrap ((i : Int) + 1) = (i : Int) + 1 := IntWalk.i64_in _ (by omega)
  have htn : ((i : Int) + 1).toNat = i + 1 := by omega
  have hb1 : (0 : Int) ≤ (i : Int) + 1 := by omega
  have hGi : ¬ (G = i) := by omega
  have hGim : ¬ (G = i + 1) := by omega
  have hci : ¬ (c = i) := by omega
  have hin : i ≤ es.length := by omega
  have hb3 : (i : Int) ≤ (es.length : Int) := by omega
  have hc63 : c ≤ 9223372036854775807 := by unfold maxLen at hcm; omega
  clear hfin hbb hkk hik hold hROW hG hRl hRo hNc hN hNf hOb hOv hcell hsome hfz hsh hown hv hcm hld hlt
  generalize es.length = n at *
  go_enter Tryz.func40, Tryz.ntmps40
  go_wp2_with (first
    | (at_builtin; refine Lib.wpList_append_run _ rfl _ _ _ _ rfl _ _ rfl rfl _ _ (hrz _) ?_)
    | (at_builtin; refine wpList_copy_runI _ rfl _ _ 23 23 rfl _ _ rfl rfl (hcpA _ hE1 hE2 _ _) ?_))
  go_region_law (refine step_copy_runI rfl _ _ 23 23 rfl (.slice (some ⟨w.heap.size, (i + 1) * 2, none⟩) (n - i) (G - (i + 1))) (.slice (some ⟨g, i * 2, none⟩) (n - i) (c - i)) (by simp [Act.eval, Act.put]) (by simp [Act.eval, Act.put]) (hcpB _ hF1 hF2 3 (G - (i + 1)) (c - i)) ?_)
  go_wp2
  go_ret
  exact HR.out
theorem insP_end (es : List Ent) (e : Ent) : insP es es.length e = es ++ [e] := by simp [insP]
/-- slices.Insert of one pair, in a row of its own -/
theorem insertP_any (base n i : Nat) (K : Value) (es : List Ent) (k v : ByteArray) (vb : Nat) (w : World) (hown : w.ownsRow base 86 2 K n (pv es)) (hv : Whole w vb 86 [.string k, .string v]) (hne : K.ownBlock ≠ some vb) (hi : i ≤ n) (hl : n ≤ 100000) (hb : base ≤ w.heap.size) :
    Calls Tryz.prog 40 #[K, .int .i64 (i : Int), .slice (some ⟨vb, 0, none⟩) 1 1] w (InsPQ base (n + 1) (insP es i (k, v)) w) := by
  have hn : es.length = n := by have := hown.1; rw [pv_len] at this; omega
  subst hn
  by_cases h : i = es.length
  · subst h
    rw [insP_end]
    exact insertP_end base es.length K es k v vb w hown hv hl hb
  · obtain ⟨g, c, rfl⟩ := owns_row hown (by omega)
    by_cases hr : es.length + 1 ≤ c
    · exact insertP_shift base c i g es k v vb w hown hv (fun e => hne (by rw [e]; rfl)) (by omega) hr hl
    · exact insertP_grow base c i g es k v vb w hown hv (by omega) (by omega) hl hb
/-- clear(s) of n pairs -/
theorem run_clear_pairs (w : World) (ty : TypeId) (b o c : Nat) (hc : ∀ j, j < 2 → (w.cell? ⟨b, o + j, none⟩).isSome = true) (hf : ∀ j, j < 2 → w.frozen? ⟨b, o + j, none⟩ = false) :
    (Builtin.clear_ #[23] ty #[.slice (some ⟨b, o, none⟩) 1 c]).run Tryz.prog w = .ok (.tuple #[]) (w.setCells b o [.string ByteArray.empty, .string ByteArray.empty]) := by
  obtain ⟨i0, hi0, hz0, hzs, hzb⟩ := info_parts infoPair
  have hzc : (Builtin.zeroCells #[.string ByteArray.empty, .string ByteArray.empty] 1).toList = [.string ByteArray.empty, .string ByteArray.empty] := by simp [Builtin.zeroCells]; rfl
  have hst := run_storeCells_cells (P := Tryz.prog) b o [.string ByteArray.empty, .string ByteArray.empty] 0 w (by simpa using hc) (by simpa using hf) (by intro u hu; simp at hu; subst hu; rfl)
  simp only [Nat.add_zero] at hst
  have hcc : (Value.agg #[.string ByteArray.empty, .string ByteArray.empty]).cells = #[.string ByteArray.empty, .string ByteArray.empty] := rfl
  simp [Builtin.clear_, run_underlying Tryz.underlying23, zeroValue, typeInfo, hi0, hz0, hcc, hzc, hst]
set_option maxHeartbeats 4000000 in
set_option maxRecDepth 20000 in
theorem deleteP_any (base c i g : Nat) (es : List Ent) (w : World) (hown : w.ownsRow base 86 2 (.slice (some ⟨g, 0, none⟩) es.length c) es.length (pv es)) (hi : i < es.length) (hl : es.length ≤ 100000) :
    Calls Tryz.prog 38 #[.slice (some ⟨g, 0, none⟩) es.length c, .int .i64 (i : Int), .int .i64 ((i : Int) + 1)] w (InsPQ base (es.length - 1) (es.take i ++ es.drop (i + 1)) w) := by
  obtain ⟨hbg, hgl, hnc, hcm, hcell, hsome, hfz, hsh⟩ := owns_cells hown
  obtain ⟨i0, hi0, hz0, hz1, hz2⟩ := info_parts infoPair
  have hld : (pv (es.drop (i + 1))).length = (es.length - (i + 1)) * 2 := by rw [pv_len, List.length_drop]
  have hlt : (pv (es.take i)).length = i * 2 := by rw [pv_len, List.length_take]; omega
  obtain ⟨A, hA, hsrc⟩ : ∃ A : Addr, (if c = i + 1 then some (⟨g, 0, none⟩ : Addr) else some ⟨g, (i + 1) * 2, none⟩) = some A ∧ Hid (∀ t u, (pv (es.drop (i + 1)))[t]? = some u → w.drew.cell? (A.add t) = some u) := by
    by_cases h : c = i + 1
    · refine ⟨⟨g, 0, none⟩, by simp [h], fun t u hu => ?_⟩
      have := (List.getElem?_eq_some_iff.1 hu).1
      omega
    · refine ⟨⟨g, (i + 1) * 2, none⟩, by simp [h], fun t u hu => ?_⟩
      have ht := (List.getElem?_eq_some_iff.1 hu).1
      rw [add_addr]
      show w.cell? _ = _
      rw [hcell _ (by omega), ← hu, pv_drop' es (i + 1) (by omega), List.getElem?_drop]
  have s1 := hide hld
  have s2 := hide (pv_one (es.drop (i + 1)))
  have s3 : Hid (∀ t, t < (pv (es.drop (i + 1))).length → (w.drew.cell? ⟨g, 0 + i * 2 + t, none⟩).isSome = true ∧ w.drew.frozen? ⟨g, 0 + i * 2 + t, none⟩ = false) := fun t ht => by
    rw [Nat.zero_add]
    exact ⟨hsome _ (by omega), hfz _⟩
  obtain ⟨W1, hW1⟩ : ∃ W1, W1 = w.drew.setCells g (0 + i * 2) (pv (es.drop (i + 1))) := ⟨_, rfl⟩
  have hs1 : ∀ t, t < c * 2 → (W1.cell? ⟨g, t, none⟩).isSome = true := fun t ht => by
    rw [hW1]
    exact isSome_setCells g (pv (es.drop (i + 1))) (0 + i * 2) w.drew (fun j hj => hsome _ (by omega)) _ (hsome t ht)
  have hcl : ∀ ty, (Builtin.clear_ #[23] ty #[.slice (some ⟨g, (i + (es.length - (i + 1))) * 2, none⟩) (es.length - (i + (es.length - (i + 1)))) (c - (i + (es.length - (i + 1))))]).run Tryz.prog W1 = .ok (.tuple #[]) (W1.setCells g ((i + (es.length - (i + 1))) * 2) [.string ByteArray.empty, .string ByteArray.empty]) := fun ty => by
    have e1 : es.length - (i + (es.length - (i + 1))) = 1 := by omega
    rw [e1]
    exact run_clear_pairs W1 ty g _ _ (fun j hj => hs1 _ (by omega)) (fun j hj => by rw [hW1, World.frozen?_setCells]; exact hfz _)
  have hfin : Mem (W1.setCells g ((i + (es.length - (i + 1))) * 2) [.string ByteArray.empty, .string ByteArray.empty]) (W1.setCells g ((i + (es.length - (i + 1))) * 2) [.string ByteArray.empty, .string ByteArray.empty]).heap.size (some ⟨g, 0, none⟩) (pv (es.take i ++ es.drop (i + 1))) := by
    have hz : ∀ (w : World) (vs : List Value) (o : Nat), w.heap.size ≤ (w.setCells g o vs).heap.size := fun w vs o => (Below.setCells (B := 0) (a := w) (Nat.zero_le _) vs o w (Below.refl _ _)).size
    have h3 := mem_three (w := W1.setCells g ((i + (es.length - (i + 1))) * 2) [.string ByteArray.empty, .string ByteArray.empty]) (g := g) (B := (W1.setCells g ((i + (es.length - (i + 1))) * 2) [.string ByteArray.empty, .string ByteArray.empty]).heap.size) (a := pv (es.take i)) (b := pv (es.drop (i + 1))) (c := [])
      (by rw [hW1]; exact Nat.lt_of_lt_of_le hgl (Nat.le_trans (hz w.drew _ _) (hz _ _ _)))
      (fun t ht => by
        rw [World.cell?_setCells_out g _ _ _ _ (fun _ _ => by show t < _ ∨ _; omega), hW1, World.cell?_setCells_out g _ _ _ _ (fun _ _ => by show t < _ ∨ _; omega)]
        show w.cell? _ = _
        rw [hcell t (by omega), pv_take' es i (by omega), List.getElem?_take_of_lt (by omega)])
      (fun t ht => by
        rw [hlt, World.cell?_setCells_out g _ _ _ _ (fun _ _ => by show i * 2 + t < _ ∨ _; omega), hW1, Nat.zero_add, World.cell?_setCells_in g (pv (es.drop (i + 1))) (i * 2) w.drew (fun j hj => hsome _ (by omega)) t ht, List.getElem?_eq_getElem ht])
      (fun t ht => absurd ht (by simp))
    rw [pv_app]
    simpa using h3
  have HR := hide (show InsPQ base (es.length - 1) (es.take i ++ es.drop (i + 1)) w (.returned (.slice (some ⟨g, 0, none⟩) (es.length - 1) c)) (W1.setCells g ((i + (es.length - (i + 1))) * 2) [.string ByteArray.empty, .string ByteArray.empty]) from
    ⟨_, c, rfl, by
      obtain ⟨cur, hgc, hcs⟩ := owns_curr hown
      obtain ⟨c1, h1, h2⟩ := setCells_block g 86 (0, 0) (pv (es.drop (i + 1))) (0 + i * 2) w.drew cur hgc
      rw [← hW1] at h1
      obtain ⟨c2, h3, h4⟩ := setCells_block g 86 (0, 0) [.string ByteArray.empty, .string ByteArray.empty] ((i + (es.length - (i + 1))) * 2) _ c1 h1
      exact owns_of_mem hfin h3 (by rw [h4, h2, hcs]) (by rw [pv_len, List.length_append, List.length_take, List.length_drop]; omega) hbg (by omega) hcm, by rw [hW1]; exact Below.setCells hbg _ _ _ (Below.setCells hbg _ _ _ (Below.refl base w).drew)⟩)
  have hW : Hid (W1 = w.drew.setCells g (0 + i * 2) (pv (es.drop (i + 1)))) := hW1
  have hic : i ≤ c := by omega
  have hjc : i + 1 ≤ c := by omega
  have hc63 : c ≤ 9223372036854775807 := by unfold maxLen at hcm; omega
  have hne : ¬ ((i : Int) = (i : Int) + 1) := by omega
  have htn : ((i : Int) + 1).toNat = i + 1 := by omega
  have hb1 : (0 : Int) ≤ (i : Int) + 1 := by omega
  have hb2 : (i : Int) + 1 ≤ (es.length : Int) := by omega
  have hsum : es.length - 1 = i + (es.length - (i + 1)) := by omega
  rw [hsum] at HR
  clear hfin hs1 hW1 hcell hsome hfz hsh hown hcm hld hlt hsum
  generalize es.length = n at *
  go_enter Tryz.func38, Tryz.ntmps38
  go_wp2_with fail
  go_region_law (refine step_append_room rfl (.tmp 22) (.tmp 25) 23 rfl 86 i0 2 Tryz.underlying23 hi0 hz1 g 0 i c (by simp [Act.eval, Act.put]) A (n - (i + 1)) (c - (i + 1)) (pv (es.drop (i + 1))) (by simp [Act.eval, Act.put]) s1.out hsrc.out s2.out (by omega) s3.out ?_; rw [← hW.out])
  go_wp2
  go_ret
  have e : n - 1 = i + (n - (i + 1)) := by omega
  rw [e]
  exact HR.out
end Go.Proofs.YtokibbgahefkbaaGreatDoor.Fe
namespace Go.Proofs.YtokibbgahefkbaaGreatDoor.Fe
open Go.RowKit Go.Shelf

def withL (es : List Ent) (k v : ByteArray) : List Ent := if putErr es k v = 0 then putE es k v else es
theorem withL_bad {es : List Ent} {k v : ByteArray} {n : Int} (h : putErr es k v = n) (hn : n ≠ 0) : withL es k v = es := by unfold withL; rw [h, if_neg hn]
theorem withL_ok {es : List Ent} {k v : ByteArray} (h : putErr es k v = 0) : withL es k v = putE es k v := by unfold withL; rw [if_pos h]
theorem putErr_arg {es : List Ent} {k v : ByteArray} (h : k.size = 0 ∨ 40 < k.size ∨ 200 < v.size) : putErr es k v = 2 := by unfold putErr; rw [if_pos h]
theorem putErr_lim {es : List Ent} {k v : ByteArray} (h : ¬ (k.size = 0 ∨ 40 < k.size ∨ 200 < v.size)) (h2 : lookup es k = none) (h3 : 30 ≤ es.length) : putErr es k v = 6 := by unfold putErr; rw [if_neg h, if_pos ⟨by rw [h2]; rfl, h3⟩]
theorem putErr_zero {es : List Ent} {k v : ByteArray} (h : ¬ (k.size = 0 ∨ 40 < k.size ∨ 200 < v.size)) (h2 : ¬ ((lookup es k).isNone = true ∧ 30 ≤ es.length)) : putErr es k v = 0 := by unfold putErr; rw [if_neg h, if_neg h2]
theorem Whole.rangeK {w : World} {b : Nat} {t : TypeId} {cs : List Value} (h : Whole w b t cs) : w.rangeAt b 0 cs := fun j v hv => by rw [Nat.zero_add, h.cell]; exact hv
theorem bookInfo : (Tryz.prog.info? 25).map (·.size) = some 1 := by kernel_rfl
/-- a book is given back out of its cell -/
theorem ret_book {fn : Func} {p u : Tmp} (h : fn.results = #[.cell p 25, .tmp u]) (tmps : Array Value) (w : World) (g : Nat) (A : Option Addr) (n c : Nat) (hp : tmps.getD p undef = .pointer (some ⟨g, 0, none⟩)) (hw : Whole w g 25 [.slice A n c]) :
    (results fn tmps).run Tryz.prog w = .ok (.tuple #[bkV A n c, tmps.getD u undef]) w := by
  rw [results_cell_tmp h, hp]
  simp [asAddr, run_loadVar_mid w g 0 25 [.slice A n c] _ hw.rangeK Tryz.underlying25 rfl bookInfo, Result.andThen, bkV]
theorem ret_book1 {fn : Func} {p : Tmp} (h : fn.results = #[.cell p 25]) (tmps : Array Value) (w : World) (g : Nat) (A : Option Addr) (n c : Nat) (hp : tmps.getD p undef = .pointer (some ⟨g, 0, none⟩)) (hw : Whole w g 25 [.slice A n c]) :
    (results fn tmps).run Tryz.prog w = .ok (bkV A n c) w := results_cell_row h tmps w g 25 #[.slice A n c] (0, 0) _ hp hw Tryz.underlying25 rfl bookInfo
/-- what a call gives: a book and an error; what stood stays -/
def WithQ (es : List Ent) (k v : ByteArray) (w : World) (e : Ending) (w' : World) : Prop :=
  ∃ A c, e = .returned (.tuple #[bkV A (withL es k v).length c, .int .i64 (putErr es k v)]) ∧ Mem w' w'.heap.size A (pv (withL es k v)) ∧ Below w.heap.size w w'
def BookQ (es : List Ent) (w : World) (e : Ending) (w' : World) : Prop :=
  ∃ A c, e = .returned (bkV A es.length c) ∧ Mem w' w'.heap.size A (pv es) ∧ Below w.heap.size w w'
theorem Mem.set_ {w : World} {B g off : Nat} {xs : List Value} (h : Mem w B (some ⟨g, off, none⟩) xs) (i : Nat) (v : Value) : Mem (w.setCell ⟨g, off + i, none⟩ v) B (some ⟨g, off, none⟩) (xs.set i v) := fun h0 => by
  rw [List.length_set] at h0
  obtain ⟨b, o, e, hb, hc⟩ := h h0
  injection e with e
  injection e with e1 e2 _
  subst e1 e2
  refine ⟨g, off, rfl, hb, fun j hj => ?_⟩
  rw [List.length_set] at hj
  by_cases e : i = j
  · subst e
    rw [World.cell?_setCell_same _ _ _ (hc i hj)]
    simp
  · rw [World.cell?_setCell_other _ _ _ _ (fun h => e (by injection h with _ h _; omega)), hc j hj]
    simp [List.getElem_set_ne e]
theorem pv_set (es : List Ent) (i : Nat) (h : i < es.length) (k v : ByteArray) (hk : es[i].1 = k) : pv (es.set i (k, v)) = (pv es).set (i * 2 + 1) (.string v) := by
  induction es generalizing i with
  | nil => simp at h
  | cons e es ih =>
    cases i with
    | zero =>
      have hk : e.1 = k := hk
      subst hk
      rfl
    | succ i =>
      have := ih i (by simpa using h) (by simpa using hk)
      rw [List.set_cons_succ, pv_cons, this, pv_cons, show (i + 1) * 2 + 1 = i * 2 + 1 + 1 + 1 by omega]
      rfl
theorem pv_str (es : List Ent) (i : Nat) (h : i < (pv es).length) : ∃ s, (pv es)[i] = .string s := by
  have := List.getElem_mem h
  generalize (pv es)[i] = x at *
  simp only [pv, List.mem_flatMap, List.mem_cons, List.not_mem_nil, or_false] at this
  obtain ⟨e, _, rfl | rfl⟩ := this <;> exact ⟨_, rfl⟩
/-- a store into a box that holds no text leaves texts as they lie -/
theorem Mem.give {w : World} {B b : Nat} {t : TypeId} {r v : Value} {A : Option Addr} {es : List Ent} (h : Mem w B A (pv es)) (hw : Whole w b t [r]) (hr : ∀ s, r ≠ .string s) : Mem (w.setCell ⟨b, 0, none⟩ v) B A (pv es) := fun h0 => by
  obtain ⟨g, off, e, hb, hc⟩ := h h0
  refine ⟨g, off, e, hb, fun i hi => ?_⟩
  rw [World.cell?_setCell_other _ _ _ _ (fun h => ?_), hc i hi]
  injection h with h1 h2 _
  obtain ⟨s, hs⟩ := pv_str es i hi
  have h3 := hc i hi
  have h4 := hw.cell (off + i)
  rw [h1, h3, hs, ← h2] at h4
  exact hr s (Option.some.inj h4).symm
/-- a box of a book, and what stood -/
structure BoxW (w wr : World) (A : Option Addr) (n c : Nat) (r : Value) : Prop where
  bel : Below w.heap.size w wr
  arg : Whole wr w.heap.size 25 [.slice A n c]
  res : Whole wr (w.heap.size + 1) 25 [r]
  size : w.heap.size + 2 ≤ wr.heap.size
theorem BoxW.below {w wr w' : World} {A : Option Addr} {n c : Nat} {r : Value} (h : BoxW w wr A n c r) (hb : Below wr.heap.size wr w') : BoxW w w' A n c r :=
  ⟨h.bel.trans (hb.mono h.bel.size), h.arg.below hb h.arg.lt, h.res.below hb h.res.lt, Nat.le_trans h.size hb.size⟩
theorem BoxW.new (w : World) (A : Option Addr) (n c : Nat) (r : Value) : BoxW w ((w.alloc (.cells #[Value.slice A n c] 25)).alloc (.cells #[r] 25)) A n c r := by
  have hz : (w.alloc (.cells [Value.slice A n c].toArray 25)).heap.size = w.heap.size + 1 := by simp
  have h2 := Whole.new (w.alloc (.cells [Value.slice A n c].toArray 25)) [r] 25
  rw [hz] at h2
  have hb : Below (w.heap.size + 1) (w.alloc (.cells [Value.slice A n c].toArray 25)) ((w.alloc (.cells [Value.slice A n c].toArray 25)).alloc (.cells [r].toArray 25)) := (Below.refl _ _).alloc (by omega) _
  exact ⟨((Below.refl _ _).alloc (Nat.le_refl _) _).alloc (by simp) _, (Whole.new w _ _).below hb (by omega), h2, by simp⟩
/-- a store beside the boxes, at a row of the call's own -/
theorem BoxW.set_ {w wr : World} {A : Option Addr} {n c : Nat} {r : Value} (h : BoxW w wr A n c r) {g o : Nat} (hg : w.heap.size + 2 ≤ g) (v : Value) : BoxW w (wr.setCell ⟨g, o, none⟩ v) A n c r :=
  ⟨h.bel.setCell (p := ⟨g, o, none⟩) (by show w.heap.size ≤ g; omega) v, h.arg.of_block (Below.heap_setCell _ _ _ _ (by show _ ≠ g; omega)), h.res.of_block (Below.heap_setCell _ _ _ _ (by show _ ≠ g; omega)), by have := h.size; simpa [World.setCell] using this⟩
theorem BoxW.give {w wr : World} {A : Option Addr} {n c : Nat} {r : Value} (h : BoxW w wr A n c r) (v : Value) : BoxW w (wr.setCell ⟨w.heap.size + 1, 0, none⟩ v) A n c v :=
  ⟨h.bel.setCell (p := ⟨w.heap.size + 1, 0, none⟩) (by show w.heap.size ≤ w.heap.size + 1; omega) v, h.arg.of_block (Below.heap_setCell _ _ _ _ (by show _ ≠ w.heap.size + 1; omega)), h.res.set_ 0 v, by have := h.size; simpa [World.setCell] using this⟩
/-- what With gives: the book as it was, and why; or a row of its own -/
def WithO (es : List Ent) (k v : ByteArray) (A : Option Addr) (c : Nat) (w : World) (e : Ending) (w' : World) : Prop :=
  Below w.heap.size w w' ∧ ((putErr es k v ≠ 0 ∧ e = .returned (.tuple #[bkV A es.length c, .int .i64 (putErr es k v)])) ∨
    (putErr es k v = 0 ∧ ∃ A' c', e = .returned (.tuple #[bkV A' (putE es k v).length c', .int .i64 0]) ∧ w'.ownsRow w.heap.size 86 2 (.slice A' (putE es k v).length c') (putE es k v).length (pv (putE es k v))))
theorem WithO.q {w w' : World} {es : List Ent} {k v : ByteArray} {A : Option Addr} {c : Nat} {e : Ending} (h : WithO es k v A c w e w') (hm : Mem w w.heap.size A (pv es)) : WithQ es k v w e w' := by
  obtain ⟨hb, ⟨h1, h2⟩ | ⟨h1, A', c', h2, h3⟩⟩ := h
  · exact ⟨A, c, by rw [h2, withL_bad rfl h1], by rw [withL_bad rfl h1]; exact (hm.below hb).mono hb.size, hb⟩
  · exact ⟨A', c', by rw [h2, withL_ok h1, h1], by rw [withL_ok h1]; exact owns_mem h3, hb⟩
theorem withO_same {w w' : World} {es : List Ent} {k v : ByteArray} {A : Option Addr} {c : Nat} {n : Int} (hp : putErr es k v = n) (hn : n ≠ 0) (hb : Below w.heap.size w w') : WithO es k v A c w (.returned (.tuple #[bkV A es.length c, .int .i64 n])) w' :=
  ⟨hb, .inl ⟨by rw [hp]; exact hn, by rw [hp]⟩⟩
theorem key_empty (k : ByteArray) : k.toList.isEmpty = decide (k.size = 0) := by
  rw [toList_eq, Bool.eq_iff_iff, List.isEmpty_iff, decide_eq_true_iff, ← size_list]
  exact List.length_eq_zero_iff.symm
set_option maxHeartbeats 4000000 in
set_option maxRecDepth 20000 in
theorem withO_any (A : Option Addr) (c : Nat) (es : List Ent) (k v : ByteArray) (w : World) (hm : Mem w w.heap.size A (pv es)) (hb : Bk es) :
    Calls Tryz.prog 17 #[bkV A es.length c, .string k, .string v] w (WithO es k v A c w) := by
  have hl := hb.len
  have HM := hide hm
  have HBk := hide hb
  have hbx := BoxW.new w A es.length c (.slice none 0 0)
  have HX := hide hbx
  have hke := key_empty k
  clear hm hb
  unfold bkV
  by_cases harg : k.size = 0 ∨ 40 < k.size ∨ 200 < v.size
  · have HP := hide (putErr_arg (es := es) harg)
    have a0 := hbx.arg.cell 0
    have b0 := hbx.res.cell 0
    have bf := hbx.res.frozen 0
    simp only [List.getElem?_cons_zero] at a0 b0
    have HF := hide (BoxW.new w A es.length c (.slice A es.length c))
    have HE := hide (show ¬ k = ByteArray.empty → (k.size : Int) ≤ 40 → (v.size : Int) ≤ 200 → False from fun h1 h2 h3 => h1 (bytes_ext (List.eq_nil_of_length_eq_zero (by rw [size_list]; omega))))
    clear hbx
    go_enter Tryz.func17, Tryz.ntmps17
    go_wp2_with fail
    all_goals first | (exfalso; exact HE.out ‹_› (‹(k.size : Int) ≤ 40 ∧ (v.size : Int) ≤ 200›).1 (‹(k.size : Int) ≤ 40 ∧ (v.size : Int) ≤ 200›).2) | exact bodyPost_ret (v := .tuple #[bkV A es.length c, .int .i64 2]) (ret_book Tryz.results17 _ _ (w.heap.size + 1) A es.length c rfl HF.out.res) rfl (withO_same HP.out (by decide) HF.out.bel)
  · have HArg := hide harg
    have HC := hide (cloneP_any A es c _ ((HM.out.below hbx.bel).mono hbx.bel.size) (by omega))
    have HA := fun w2 (h : Below w.heap.size w w2) => hide (at_any A c es k w2 ((HM.out.below h).mono h.size) (by omega) HBk.out.rise)
    have a0 := hbx.arg.cell 0
    have hk1 : ¬ k = ByteArray.empty := fun e => harg (.inl (by rw [e]; rfl))
    have hk2 : ¬ k.size = 0 := fun e => harg (.inl e)
    have hk3 : (k.size : Int) ≤ 40 := by omega
    have hk4 : (v.size : Int) ≤ 200 := by omega
    rw [decide_eq_false hk2] at hke
    clear harg hk2
    have hz2 : ((w.alloc (.cells #[Value.slice A es.length c] 25)).alloc (.cells #[Value.slice none 0 0] 25)).heap.size = w.heap.size + 2 := by simp
    have HZ2 := hide hz2
    simp only [List.getElem?_cons_zero] at a0
    clear hbx hz2
    go_enter Tryz.func17, Tryz.ntmps17
    go_wp2_with fail
    refine HC.out.mono ?_
    rintro e w3 ⟨v', rfl, ho, hbc⟩
    rw [HZ2.out] at ho
    have HX3 := hide (HX.out.below hbc)
    have HO := hide ho
    clear ho hbc a0
    have a0 := HX3.out.arg.cell 0
    simp only [List.getElem?_cons_zero] at a0
    unfold bkV at HA
    go_wp2_with fail
    refine (HA w3 HX3.out.bel).out.mono ?_
    rintro e w4 ⟨i, hat, f, rfl, hf, hb4⟩
    have HAt := hide hat
    have HFn := hide hf
    have HX4 := hide (HX3.out.below hb4)
    have HO4 := hide (owns_block HO.out (fun g hg => hb4.block g (HO.out.lt g hg).2))
    clear hat hf hb4 a0 HX3 HO HC HA HX
    have a0 := HX4.out.arg.cell 0
    have r0 := HX4.out.res.cell 0
    have rf := HX4.out.res.frozen 0
    simp only [List.getElem?_cons_zero] at a0 r0
    cases f with
    | true =>
      obtain ⟨hi, he⟩ := HFn.out.mp rfl
      have HP := hide (putErr_zero (v := v) HArg.out (fun h => by
        rw [← he, lookup_hit HBk.out.rise hi] at h
        exact absurd h.1 (by simp)))
      obtain ⟨g, c2, rfl⟩ := owns_row HO4.out (by omega)
      obtain ⟨hbg, hgl, hnc, hcm, hcell, _, hfz, _⟩ := owns_cells HO4.out
      have f1 := (hcell (i * 2 + 1) (by omega)).trans (pv_get es i hi).2
      have ff := hfz (i * 2 + 1)
      have hn1 : ¬ g = w.heap.size + 1 := by omega
      have hn2 : ¬ w.heap.size + 1 = g := by omega
      have hm4 : Mem w4 w4.heap.size (some ⟨g, 0, none⟩) (pv es) := owns_mem HO4.out
      have HR := hide (show WithO es k v A c w (.returned (.tuple #[bkV (some ⟨g, 0, none⟩) es.length c2, .int .i64 0])) ((w4.setCell ⟨g, i * 2 + 1, none⟩ (.string v)).setCell ⟨w.heap.size + 1, 0, none⟩ (.slice (some ⟨g, 0, none⟩) es.length c2)) from by
        have hs : putE es k v = es.set i (k, v) := putE_hit es k v i HAt.out hi he
        refine ⟨((HX4.out.set_ hbg (.string v)).give _).bel, .inr ⟨HP.out, some ⟨g, 0, none⟩, c2, by rw [hs, List.length_set], ?_⟩⟩
        obtain ⟨cur, hgc, hcs⟩ := owns_curr HO4.out
        obtain ⟨cu2, hg2, hs2⟩ := setCells_block g 86 (0, 0) [.string v] (i * 2 + 1) w4 cur hgc
        have hg3 : ((w4.setCell ⟨g, i * 2 + 1, none⟩ (.string v)).setCell ⟨w.heap.size + 1, 0, none⟩ (.slice (some ⟨g, 0, none⟩) es.length c2)).heap[g]? = some (.cells cu2 86 (0, 0)) := (Below.heap_setCell _ _ _ _ (by show g ≠ w.heap.size + 1; exact hn1)).trans hg2
        have h1 := hm4.set_ (i * 2 + 1) (.string v)
        rw [Nat.zero_add] at h1
        have h3 : Mem ((w4.setCell ⟨g, i * 2 + 1, none⟩ (.string v)).setCell ⟨w.heap.size + 1, 0, none⟩ (.slice (some ⟨g, 0, none⟩) es.length c2)) w4.heap.size (some ⟨g, 0, none⟩) ((pv es).set (i * 2 + 1) (.string v)) := fun h0 => by
          obtain ⟨b, off, e, hb, hc⟩ := h1 h0
          injection e with e
          injection e with e1 e2 _
          subst e1 e2
          exact ⟨g, 0, rfl, hb, fun j hj => (World.cell?_setCell_far _ _ _ _ (by show w.heap.size + 1 ≠ g; exact hn2)).trans (hc j hj)⟩
        rw [hs, List.length_set, pv_set es i hi k v he]
        exact owns_of_mem h3 hg3 (by rw [hs2, hcs]) (by rw [List.length_set, pv_len]) (by omega) hnc hcm)
      have HW := hide ((HX4.out.set_ (o := i * 2 + 1) hbg (.string v)).give (.slice (some ⟨g, 0, none⟩) es.length c2)).res
      clear hcell hfz hm4 he
      go_wp2_with fail
      exact bodyPost_ret (v := .tuple #[bkV (some ⟨g, 0, none⟩) es.length c2, .int .i64 0]) (ret_book Tryz.results17 _ _ (w.heap.size + 1) (some ⟨g, 0, none⟩) es.length c2 rfl HW.out) rfl HR.out
    | false =>
      have hnk : ∀ h : i < es.length, es[i].1 ≠ k := fun h e => by
        have := HFn.out.mpr ⟨h, e⟩
        cases this
      have hnone : lookup es k = none := lookup_miss (HAt.out.all hnk HBk.out.rise)
      obtain ⟨A', c', rfl⟩ := owns_slice HO4.out
      by_cases hlim : 30 ≤ es.length
      · have HP := hide (putErr_lim HArg.out hnone hlim)
        have HR := hide (withO_same (A := A) (c := c) HP.out (by decide) (HX4.out.give (.slice A es.length c)).bel)
        have HW := hide (HX4.out.give (.slice A es.length c)).res
        have hlI : (30 : Int) ≤ (es.length : Int) := by omega
        clear hnone hnk
        go_wp2_with fail
        exact bodyPost_ret (v := .tuple #[bkV A es.length c, .int .i64 6]) (ret_book Tryz.results17 _ _ (w.heap.size + 1) A es.length c rfl HW.out) rfl HR.out
      · have HP := hide (putErr_zero (v := v) HArg.out (fun h => hlim h.2))
        have hlI : ¬ (30 : Int) ≤ (es.length : Int) := by omega
        have HPu := hide (show withL es k v = insP es i (k, v) by rw [withL_ok HP.out, putE_miss es k v i HAt.out hnk]; rfl)
        have hwx := Whole.new w4 [.string k, .string v] 86
        have hb5 : Below w4.heap.size w4 (w4.alloc (.cells #[.string k, .string v] 86)) := (Below.refl _ _).alloc (Nat.le_refl _) _
        have HI := hide (insertP_any (w.heap.size + 2) es.length i (.slice A' es.length c') es k v w4.heap.size (w4.alloc (.cells #[.string k, .string v] 86)) (owns_block HO4.out (fun g hg => hb5.block g (HO4.out.lt g hg).2)) hwx (fun e => by have := (HO4.out.lt _ e).2; omega) HAt.out.le (by omega) (Nat.le_trans HX4.out.size hb5.size))
        have HX5 := hide (HX4.out.below hb5)
        have HIl := hide (show (insP es i (k, v)).length = es.length + 1 by have := HAt.out.le; unfold insP; rw [List.length_append, List.length_cons, List.length_take, List.length_drop]; omega)
        clear hnone hnk hwx hb5 a0 r0 rf
        go_wp2_with fail
        refine HI.out.mono ?_
        rintro e w6 ⟨A6, c6, rfl, ho6, hb6⟩
        have HO6 := hide ho6
        have hx6 : BoxW w w6 A es.length c (.slice none 0 0) := ⟨HX5.out.bel.trans (hb6.mono (by omega)), HX5.out.arg.below hb6 (by omega), HX5.out.res.below hb6 (by omega), Nat.le_trans HX5.out.size hb6.size⟩
        have r0 := hx6.res.cell 0
        have rf := hx6.res.frozen 0
        simp only [List.getElem?_cons_zero] at r0
        have HW := hide (hx6.give (.slice A6 (es.length + 1) c6))
        have HX6 := hide hx6
        clear ho6 hb6 hx6
        go_wp2_with fail
        refine bodyPost_ret (v := .tuple #[bkV A6 (es.length + 1) c6, .int .i64 0]) (ret_book Tryz.results17 _ _ (w.heap.size + 1) A6 (es.length + 1) c6 rfl HW.out.res) rfl ?_
        have hpu : putE es k v = insP es i (k, v) := by have := HPu.out; rwa [withL_ok HP.out] at this
        refine ⟨HW.out.bel, .inr ⟨HP.out, A6, c6, by rw [hpu, HIl.out], ?_⟩⟩
        rw [hpu, HIl.out]
        exact owns_base (owns_block HO6.out fun q hq => Below.heap_setCell _ _ _ _ (by have := (HO6.out.lt q hq).1; show q ≠ w.heap.size + 1; omega)) (fun q hq => by have := (HO6.out.lt q hq).1; omega)
theorem with_any (A : Option Addr) (c : Nat) (es : List Ent) (k v : ByteArray) (w : World) (hm : Mem w w.heap.size A (pv es)) (hb : Bk es) :
    Calls Tryz.prog 17 #[bkV A es.length c, .string k, .string v] w (WithQ es k v w) :=
  (withO_any A c es k v w hm hb).mono fun _ _ h => h.q hm
set_option maxHeartbeats 4000000 in
set_option maxRecDepth 20000 in
theorem without_any (A : Option Addr) (c : Nat) (es : List Ent) (k : ByteArray) (w : World) (hm : Mem w w.heap.size A (pv es)) (hb : Bk es) :
    Calls Tryz.prog 16 #[bkV A es.length c, .string k] w (BookQ (delE es k) w) := by
  have hl := hb.len
  have HM := hide hm
  have HBk := hide hb
  have hbx := BoxW.new w A es.length c (.slice none 0 0)
  have HX := hide hbx
  have HA := hide (at_any A c es k _ ((HM.out.below hbx.bel).mono hbx.bel.size) (by omega) hb.rise)
  have HC := fun w2 (h : Below w.heap.size w w2) => hide (cloneP_any A es c w2 ((HM.out.below h).mono h.size) (by omega))
  have a0 := hbx.arg.cell 0
  simp only [List.getElem?_cons_zero] at a0
  clear hm hb hbx
  unfold bkV at HA ⊢
  go_enter Tryz.func16, Tryz.ntmps16
  go_wp2_with fail
  refine HA.out.mono ?_
  rintro e w4 ⟨i, hat, f, rfl, hf, hb4⟩
  have HAt := hide hat
  have HFn := hide hf
  have HX4 := hide (HX.out.below hb4)
  clear hat hf hb4 a0 HA HX
  have a0 := HX4.out.arg.cell 0
  have r0 := HX4.out.res.cell 0
  have rf := HX4.out.res.frozen 0
  simp only [List.getElem?_cons_zero] at a0 r0
  cases f with
  | false =>
    have hnk : ∀ h : i < es.length, es[i].1 ≠ k := fun h e => by
      have := HFn.out.mpr ⟨h, e⟩
      cases this
    have hd : delE es k = es := delE_miss (HAt.out.all hnk HBk.out.rise)
    have HD := hide hd
    have HG := hide (HX4.out.give (.slice A es.length c))
    clear hnk hd
    go_wp2_with fail
    refine bodyPost_ret (v := bkV A es.length c) (ret_book1 Tryz.results16 _ _ (w.heap.size + 1) A es.length c rfl HG.out.res) rfl ?_
    exact ⟨A, c, by rw [HD.out], by rw [HD.out]; exact (HM.out.below HG.out.bel).mono HG.out.bel.size, HG.out.bel⟩
  | true =>
    obtain ⟨hi, he⟩ := HFn.out.mp rfl
    have HD := hide (delE_hit es HBk.out.rise k i HAt.out hi he)
    have hii : IntKind.i64.wrap ((i : Int) + 1) = (i : Int) + 1 := IntWalk.i64_in _ (by omega)
    clear he
    go_wp2_with fail
    refine (HC w4 HX4.out.bel).out.mono ?_
    rintro e w5 ⟨v', rfl, ho, hb5⟩
    obtain ⟨g, c5, rfl⟩ := owns_row ho (by omega)
    have HX5 := hide (HX4.out.below hb5)
    have hg5 := (ho.lt g rfl).1
    have HDe := hide (deleteP_any w4.heap.size c5 i g es w5 ho hi (by omega))
    clear ho hb5 HC a0 r0 rf
    go_wp2_with fail
    refine HDe.out.mono ?_
    rintro e w6 ⟨A6, c6, rfl, ho6, hb6⟩
    have hm6 := owns_mem ho6
    have hsz := HX4.out.size
    have hx6 : BoxW w w6 A es.length c (.slice none 0 0) := ⟨HX5.out.bel.trans (hb6.mono (by omega)), HX5.out.arg.below hb6 (by omega), HX5.out.res.below hb6 (by omega), Nat.le_trans HX5.out.size hb6.size⟩
    have r0 := hx6.res.cell 0
    have rf := hx6.res.frozen 0
    simp only [List.getElem?_cons_zero] at r0
    have HW := hide (hx6.give (.slice A6 (es.length - 1) c6))
    have HM6 := hide hm6
    have HX6 := hide hx6
    have HL := hide (show (delE es k).length = es.length - 1 by rw [HD.out, List.length_append, List.length_take, List.length_drop]; omega)
    clear hm6 hb6 hx6
    go_wp2_with fail
    refine bodyPost_ret (v := bkV A6 (es.length - 1) c6) (ret_book1 Tryz.results16 _ _ (w.heap.size + 1) A6 (es.length - 1) c6 rfl HW.out.res) rfl ?_
    refine ⟨A6, c6, by rw [HL.out], ?_, HW.out.bel⟩
    rw [HD.out]
    exact (HM6.out.give HX6.out.res (fun s h => by cases h)).mono (by simp)
end Go.Proofs.YtokibbgahefkbaaGreatDoor.Fe
