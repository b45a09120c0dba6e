/- Maps with integers as keys, whose values are read as they are: what a memory's map, in whatever order, is in the world; and back. Contracts that give a row that is new, or turn one: slices.Insert of a string, ahead of the end. slices.Sorted of a map's keys; a map's greatest key. The number behind a map's greatest key (wal.next). A page store's commit: what it does, given what it calls; the plain part. A page store's commit, as the run does it; what stands ahead of its loop, and behind. A map's entry and the store into it, in a block; words for a walk. -/
import Derived.Test.YtdcioacjhpnihaaGreatDoorQ8
import Derived.Maps.RangeWalk
import Derived.WideKeyEntry
import Derived.WalkArith
import Derived.Laws.IdiomCopy
import Derived.Lib.SlKeysI
import Derived.Deep.Draws
import Derived.OwnWalk
import Derived.Deep.RegionHeld3
import Derived.Deep.MidRow
set_option linter.all false
namespace Go.Proofs.YtdcioacjhpnihaaGreatDoor
open Go Go.RowKit Go.ChangeMaps Go.MapKept Go.WideShapes
open Go.WideElems (Fit rd rg rd_key rd_val rg_of)
open Go.Maps (Keyed)
noncomputable section

/-- a value is read as itself -/
def RV (v : Value) : Option (DataW Value × List MemPlace) := some (.held v, [])
/-- a map with integers as keys, as a function -/
structure MapF (q : IntKind) (D : DataW Value) (f : Int → Option Value) : Prop where
  has : ∀ x, Maps.has D (.int q x) = (f x).isSome
  val : ∀ x v z, f x = some v → D.atKey (.int q x) z = .held v
  keys : ∀ kl, Maps.has D kl = true → ∃ x, kl = .int q x
theorem int_key (q : IntKind) (x : Int) : WideAt.IsKeyLit (.int q x) := by simp [WideAt.IsKeyLit]
def setF (f : Int → Option Value) (x : Int) (v : Value) : Int → Option Value := fun y => if y = x then some v else f y
theorem MapF.put {q : IntKind} {D : DataW Value} {f : Int → Option Value} (h : MapF q D f) (hm : Maps.IsMap D) (x : Int) (v : Value) : MapF q (D.put (.int q x) (.held v)) (setF f x v) := by
  have hne : ∀ {y : Int}, y ≠ x → (Lit.int q y) ≠ .int q x := fun h e => by injection e with _ e; exact h e
  refine ⟨fun y => ?_, fun y u z hy => ?_, fun kl hk => ?_⟩
  · unfold setF
    by_cases e : y = x
    · subst e
      rw [if_pos rfl]
      exact Maps.has_put_same hm (int_key q _) _
    · rw [if_neg e, Maps.has_put_other (hne e)]
      exact h.has y
  · unfold setF at hy
    by_cases e : y = x
    · subst e
      rw [if_pos rfl] at hy
      cases hy
      exact Maps.atKey_put_same hm (int_key q _) _ z
    · rw [if_neg e] at hy
      exact (Maps.atKey_put_other (hne e) _ z).trans (h.val y u z hy)
  · by_cases e : kl = .int q x
    · exact ⟨x, e⟩
    · rw [Maps.has_put_other e] at hk
      exact h.keys kl hk
section
variable {P : Program} {k : TypeId} {q : IntKind} {es : Array MapEntry} {c : Nat}
abbrev dES (P : Program) (k : TypeId) (es : Array MapEntry) : DataW Value := .map ((es.toList.map (rg P k RV)).foldr DataW.insert [])
theorem es_entry (hk : P.underlying k = some (.int q)) (F : Fit P k RV es c) {e : MapEntry} (he : e ∈ es.toList) : ∃ x, e.key = .int q x ∧ Maps.has (dES P k es) (.int q x) = true ∧ ∀ z, (dES P k es).atKey (.int q x) z = .held e.val := by
  have K : Keyed P k := Maps.int_keyed hk
  obtain ⟨y0, hy0⟩ := F.reads e he
  obtain ⟨z, hz, hzd⟩ := rd_val hy0
  have hkey := rd_key hy0
  obtain ⟨x, h1, h2, _⟩ := Maps.keyOf_int_inv hk hkey
  have hrg : (rg P k RV e).1 = y0.1 := by rw [rg_of hy0]
  refine ⟨x, h1, ?_, fun zd => ?_⟩
  · exact List.any_eq_true.2 ⟨rg P k RV e, mem_sorted.2 (List.mem_map.2 ⟨e, he, rfl⟩), by rw [hrg, h2]; exact WideAt.sameKey_self (int_key q x)⟩
  · rw [← h2, (atKey_sorted (es.toList.map (rg P k RV)) (Maps.fit_rising K F) y0.1 (K.key hkey)).2 (rg P k RV e) (List.mem_map.2 ⟨e, he, rfl⟩) hrg, rg_of hy0, hzd]
    cases hz
    rfl
theorem es_has (hk : P.underlying k = some (.int q)) (F : Fit P k RV es c) {kl : Lit} (h : Maps.has (dES P k es) kl = true) : ∃ e ∈ es.toList, ∃ x, e.key = .int q x ∧ kl = .int q x := by
  obtain ⟨p, hp, hpk⟩ := List.any_eq_true.1 h
  obtain ⟨e, he, rfl⟩ := List.mem_map.1 (mem_sorted.1 hp)
  obtain ⟨y0, hy0⟩ := F.reads e he
  obtain ⟨x, h1, h2, _⟩ := Maps.keyOf_int_inv hk (rd_key hy0)
  rw [rg_of hy0, h2] at hpk
  exact ⟨e, he, x, h1, (WideAt.sameKey_eq hpk).symm⟩
/-- entries and the function -/
theorem MapF.mem (hk : P.underlying k = some (.int q)) (F : Fit P k RV es c) {f : Int → Option Value} (h : MapF q (dES P k es) f) : (∀ e ∈ es.toList, ∃ x, e.key = .int q x ∧ f x = some e.val) ∧ ∀ x v, f x = some v → ∃ e ∈ es.toList, e.key = .int q x ∧ e.val = v := by
  have h1 : ∀ e ∈ es.toList, ∃ x, e.key = .int q x ∧ f x = some e.val := fun e he => by
    obtain ⟨x, h1, h2, h3⟩ := es_entry hk F he
    rw [h.has] at h2
    obtain ⟨v, hv⟩ := Option.isSome_iff_exists.1 h2
    have := (h.val x v (.lit (.bool true)) hv).symm.trans (h3 _)
    injection this with this
    exact ⟨x, h1, by rw [hv, this]⟩
  refine ⟨h1, fun x v hv => ?_⟩
  have h2 : Maps.has (dES P k es) (.int q x) = true := by rw [h.has, hv]; rfl
  obtain ⟨e, he, y, h3, h4⟩ := es_has hk F h2
  injection h4 with _ h4
  subst h4
  obtain ⟨y, h5, h6⟩ := h1 e he
  rw [h3] at h5
  injection h5 with _ h5
  subst h5
  rw [hv] at h6
  cases h6
  exact ⟨e, he, h3, rfl⟩
open Classical in
theorem fv_of (hk : P.underlying k = some (.int q)) (F : Fit P k RV es c) : ∃ f, MapF q (dES P k es) f := by
  have hn : es.toList.Pairwise (fun x y => x.key ≠ y.key) := ((stamped_iff es c).1 F.stamped).2.2
  refine ⟨fun x => if h : ∃ e ∈ es.toList, e.key = .int q x then some (Classical.choose h).val else none, fun x => ?_, fun x v z hv => ?_, fun kl hkl => ?_⟩
  · by_cases h : ∃ e ∈ es.toList, e.key = .int q x
    · rw [dif_pos h]
      obtain ⟨e, he, hx⟩ := h
      obtain ⟨y, h1, h2, _⟩ := es_entry hk F he
      rw [hx] at h1
      injection h1 with _ h1
      subst h1
      exact h2
    · rw [dif_neg h]
      cases hh : Maps.has (dES P k es) (.int q x) with
      | false => rfl
      | true =>
        obtain ⟨e, he, y, h3, h4⟩ := es_has hk F hh
        injection h4 with _ h4
        subst h4
        exact absurd ⟨e, he, h3⟩ h
  · by_cases h : ∃ e ∈ es.toList, e.key = .int q x
    · rw [dif_pos h] at hv
      obtain ⟨h1, h2⟩ := Classical.choose_spec h
      cases hv
      obtain ⟨y, h3, _, h4⟩ := es_entry hk F h1
      rw [h2] at h3
      injection h3 with _ h3
      subst h3
      exact h4 z
    · rw [dif_neg h] at hv
      cases hv
  · obtain ⟨e, _, x, _, h⟩ := es_has hk F hkl
    exact ⟨x, h⟩
theorem fit_ints (hk : P.underlying k = some (.int q)) (hs : es.size ≤ maxLen) (h1 : ∀ e ∈ es.toList, e.born < c) (h2 : (es.toList.map (·.born)).Nodup) (h3 : (es.toList.map (·.key)).Nodup) (h4 : ∀ e ∈ es.toList, ∃ x, e.key = .int q x ∧ (Lit.int q x).wf = true) : Fit P k RV es c :=
  ⟨hs, (stamped_iff es c).2 ⟨h1, h2, by simpa [List.Nodup, List.pairwise_map] using h3⟩, fun e he => by
    obtain ⟨x, hx, hw⟩ := h4 e he
    refine ⟨(.int q x, .held e.val), ?_⟩
    obtain ⟨ek, ev, eb⟩ := e
    simp only at hx
    subst hx
    exact WideElems.rd_mk (R := RV) (yv := (.held ev, [])) (Maps.keyOf_int_mk hk hw) rfl⟩
end
/-! ### a memory's map in whatever order -/
def pairOf (n : Int) (v : Value) : Value := .tuple #[.int .i64 n, v]
theorem prR.pairs {ι : Emb} : ∀ {l : List Value} {m : List MapEntry}, prR ι l m → (∀ e ∈ m, ∃ n v, pairOf n v ∈ l ∧ e.key = .int .i64 n ∧ VR ι v e.val) ∧ ∀ p ∈ l, ∃ n v, p = pairOf n v ∧ ∃ e ∈ m, e.key = .int .i64 n ∧ VR ι v e.val
  | [], [], _ => ⟨fun e h => (by cases h), fun p h => (by cases h)⟩
  | .tuple a :: l, e :: m, h => by
    obtain ⟨⟨n, v, rfl, h2, h3⟩, h4⟩ := h
    obtain ⟨i1, i2⟩ := prR.pairs h4
    refine ⟨fun e' he => ?_, fun p hp => ?_⟩
    · rcases List.mem_cons.1 he with rfl | he
      · exact ⟨n, v, List.mem_cons_self, h2, h3⟩
      · obtain ⟨n', v', j1, j2⟩ := i1 e' he
        exact ⟨n', v', List.mem_cons_of_mem _ j1, j2⟩
    · rcases List.mem_cons.1 hp with rfl | hp
      · exact ⟨n, v, rfl, e, List.mem_cons_self, h2, h3⟩
      · obtain ⟨n', v', j1, e', j2, j3⟩ := i2 p hp
        exact ⟨n', v', j1, e', List.mem_cons_of_mem _ j2, j3⟩
/-- the function that a memory's map stands for -/
def FL (ι : Emb) (l : List Value) (f : Int → Option Value) : Prop := (∀ n v, pairOf n v ∈ l → ∃ v', f n = some v' ∧ VR ι v v') ∧ ∀ n v', f n = some v' → ∃ v, pairOf n v ∈ l ∧ VR ι v v'
/-- keys that are small -/
def smallK (l : List Value) : Prop := ∀ p ∈ l, ∃ (n : Nat) (v : Value), p = pairOf n v ∧ n < 1000000
theorem smallK.wf {n : Nat} (h : n < 1000000) : (Lit.int .i64 (n : Int)).wf = true := WalkArith.wf_i64 (by omega)
theorem umap_own {P : Program} {k : TypeId} (hk : P.underlying k = some (.int .i64)) {ι : Emb} {w : World} {b : Nat} {l : List Value} {o' : Obj} (hb : w.heap[b]? = some o') (h : umapR ι l o') (hs : smallK l) (hl : l.length ≤ 100000) :
    ∃ D f, w.ownsMap P k RV b l.length D ∧ MapF .i64 D f ∧ FL ι l f := by
  obtain ⟨es, c, rfl, ⟨m, h1, h2⟩, h3, h4, h5⟩ := h
  obtain ⟨p1, p2⟩ := prR.pairs h2
  have hlen : es.size = l.length := by rw [← Array.length_toList, ← h1.length_eq, prR.len h2]
  have F : Fit P k RV es c := fit_ints hk (by rw [hlen]; unfold maxLen; omega) h4 h5 h3 fun e he => by
    obtain ⟨n, v, j1, j2, _⟩ := p1 e (h1.mem_iff.2 he)
    obtain ⟨n', v', j3, j4⟩ := hs _ j1
    unfold pairOf at j3
    injection j3 with j3
    have j5 : n = (n' : Int) := by
      have := congrArg (fun a => a[0]?) j3
      simpa using this
    subst j5
    exact ⟨_, j2, smallK.wf j4⟩
  obtain ⟨f, hf⟩ := fv_of hk F
  obtain ⟨f1, f2⟩ := MapF.mem hk F hf
  refine ⟨dES P k es, f, ⟨es, c, hb, F, by omega, rfl⟩, hf, fun n v hp => ?_, fun n v' hv => ?_⟩
  · obtain ⟨n', v2, j1, e, j2, j3, j4⟩ := p2 _ hp
    unfold pairOf at j1
    injection j1 with j1
    have j5 : n = n' := by
      have := congrArg (fun a => a[0]?) j1
      simpa using this
    have j6 : v = v2 := by
      have := congrArg (fun a => a[1]?) j1
      simpa using this
    subst j5 j6
    obtain ⟨x, g1, g2⟩ := f1 e (h1.mem_iff.1 j2)
    rw [j3] at g1
    injection g1 with _ g1
    subst g1
    exact ⟨_, g2, j4⟩
  · obtain ⟨e, g1, g2, g3⟩ := f2 n v' hv
    obtain ⟨n', v, j1, j2, j3⟩ := p1 e (h1.mem_iff.2 g1)
    rw [g2] at j2
    injection j2 with _ j2
    subst j2
    rw [g3] at j3
    exact ⟨v, j1, j3⟩
/-- pairs that find their entries -/
theorem prR_make {ι : Emb} {es : List MapEntry} : ∀ {l : List Value}, (∀ p ∈ l, ∃ n v, p = pairOf n v ∧ ∃ e ∈ es, e.key = .int .i64 n ∧ VR ι v e.val) → ∃ m, prR ι l m ∧ (∀ e ∈ m, e ∈ es) ∧ m.length = l.length ∧ ∀ (i : Nat) (p : Value) (e : MapEntry), l[i]? = some p → m[i]? = some e → ∃ n v, p = pairOf n v ∧ e.key = .int .i64 n
  | [], _ => ⟨[], trivial, fun e h => (by cases h), rfl, fun i p e h => by cases i <;> cases h⟩
  | p :: l, h => by
    obtain ⟨n, v, rfl, e, h1, h2, h3⟩ := h p List.mem_cons_self
    obtain ⟨m, i1, i2, i3, i4⟩ := prR_make (l := l) fun p hp => h p (List.mem_cons_of_mem _ hp)
    refine ⟨e :: m, ⟨⟨n, v, rfl, h2, h3⟩, i1⟩, fun e' he => ?_, by simp [i3], fun i p' e' hp he => ?_⟩
    · rcases List.mem_cons.1 he with rfl | he
      · exact h1
      · exact i2 e' he
    · cases i with
      | zero =>
        simp only [List.getElem?_cons_zero, Option.some.injEq] at hp he
        subst hp he
        exact ⟨n, v, rfl, h2⟩
      | succ i =>
        simp only [List.getElem?_cons_succ] at hp he
        exact i4 i p' e' hp he
theorem nodupM {α β : Type} {f : α → β} {l : List α} (h : (l.map f).Nodup) : l.Nodup := by
  unfold List.Nodup at h ⊢
  rw [List.pairwise_map] at h
  exact h.imp fun hne e => hne (by rw [e])
def keyP (v : Value) : Value := match v with
  | .tuple a => a.getD 0 undef
  | _ => undef
theorem own_umap {P : Program} {k : TypeId} (hk : P.underlying k = some (.int .i64)) {ι : Emb} {w : World} {b n : Nat} {l : List Value} {D : DataW Value} {f : Int → Option Value} (h : w.ownsMap P k RV b n D) (hf : MapF .i64 D f) (hl : FL ι l f) (hp : ∀ p ∈ l, ∃ n v, p = pairOf n v) (hn : (l.map keyP).Nodup) :
    ∃ o', w.heap[b]? = some o' ∧ umapR ι l o' := by
  obtain ⟨es, c, hb, F, _, rfl⟩ := h
  obtain ⟨f1, f2⟩ := MapF.mem hk F hf
  obtain ⟨s1, s2, s3⟩ := (stamped_iff es c).1 F.stamped
  obtain ⟨m, i1, i2, i3, i4⟩ := prR_make (ι := ι) (es := es.toList) (l := l) fun p hpl => by
    obtain ⟨n, v, rfl⟩ := hp p hpl
    obtain ⟨v', g1, g2⟩ := hl.1 n v hpl
    obtain ⟨e, g3, g4, g5⟩ := f2 n v' g1
    exact ⟨n, v, rfl, e, g3, g4, by rw [g5]; exact g2⟩
  have hkeys : (es.toList.map (·.key)).Nodup := by simpa [List.Nodup, List.pairwise_map] using s3
  have hmk : m.map (·.key) = l.map keyP := by
    refine List.ext_getElem? fun i => ?_
    rw [List.getElem?_map, List.getElem?_map]
    cases hm : m[i]? with
    | none =>
      rw [List.getElem?_eq_none_iff] at hm
      rw [List.getElem?_eq_none (by omega)]
      rfl
    | some e =>
      have hi := (List.getElem?_eq_some_iff.1 hm).1
      have hli : l[i]? = some l[i] := List.getElem?_eq_getElem (by omega)
      obtain ⟨n, v, g1, g2⟩ := i4 i _ e hli hm
      rw [hli, g1]
      simp only [Option.map_some]
      rw [g2]
      rfl
  have hmn : m.Nodup := by
    have : (m.map (·.key)).Nodup := by rw [hmk]; exact hn
    exact nodupM this
  have hen : es.toList.Nodup := nodupM hkeys
  refine ⟨_, hb, es, c, rfl, ⟨m, ?_, i1⟩, hkeys, s1, s2⟩
  refine (List.perm_ext_iff_of_nodup hmn hen).2 fun e => ⟨i2 e, fun he => ?_⟩
  obtain ⟨x, g1, g2⟩ := f1 e he
  obtain ⟨v, g3, _⟩ := hl.2 x _ g2
  obtain ⟨i, hi, g4⟩ := List.getElem_of_mem g3
  have hmi : i < m.length := by omega
  obtain ⟨n', v', g5, g6⟩ := i4 i _ m[i] (List.getElem?_eq_getElem hi) (List.getElem?_eq_getElem hmi)
  rw [g4] at g5
  unfold pairOf at g5
  injection g5 with g5
  have g7 : x = n' := by
    have := congrArg (fun a => a[0]?) g5
    simpa using this
  subst g7
  have : e = m[i] := keyEq hkeys he (i2 _ (List.getElem_mem hmi)) (by rw [g1, g6])
  rw [this]
  exact List.getElem_mem hmi
end
end Go.Proofs.YtdcioacjhpnihaaGreatDoor
namespace Go.Proofs.YtdcioacjhpnihaaGreatDoor
open Go Go.RowKit
noncomputable section

/-- one block more, by whatever way -/
theorem Tr.fresh {P : Program} {G : Nat} {ι : Emb} {m m' : Mem} {w w' : World} (hr : Rep P G ι m w) (hb : Below w.heap.size w w') {k x : Nat} {o o' : Obj} (hk : m.n ≤ k) (hm : ∀ j, m'.get j = if j = k then some o else m.get j) (hkn : k < m'.n)
    (hg : w'.heap[w.heap.size]? = some o') (ho : objR P (ι.add k w.heap.size x) x o o') : Tr P G ι m w (ι.add k w.heap.size x) m' w' := by
  have ht := Tr.new hr hk hm hkn ho
  have hsz : w.heap.size < w'.heap.size := (Array.getElem?_eq_some_iff.1 hg).1
  refine ⟨ht.le, ⟨fun j oj hj => ?_, ht.rep.inj, ht.rep.new, ht.rep.glob, hr.inv.step ht.le (fun j hj _ => hb.block j hj) ht.rng ht.n (ht.res 15)⟩, hb.os, hb.tape, hb.output, by omega, fun j hj _ => hb.block j hj, ht.rng, ht.dom, ht.n, ht.res⟩
  obtain ⟨b, o2, e1, e2, e3⟩ := ht.rep.obj j oj hj
  refine ⟨b, o2, e1, ?_, e3⟩
  have e2 : (w.heap.push o')[b]? = some o2 := e2
  rw [Array.getElem?_push] at e2
  by_cases h : b = w.heap.size
  · subst h
    rw [if_pos rfl] at e2
    rw [hg, e2]
  · rw [if_neg h] at e2
    rw [hb.block b (Array.getElem?_eq_some_iff.1 e2).1, e2]
/-! ### cells that are set -/
def setA : Array Value → Nat → List Value → Array Value
  | cur, _, [] => cur
  | cur, o, v :: r => setA (cur.setIfInBounds o v) (o + 1) r
theorem setA_size : ∀ (vs : List Value) (cur : Array Value) (o : Nat), (setA cur o vs).size = cur.size
  | [], _, _ => rfl
  | v :: r, cur, o => by rw [setA, setA_size r, Array.size_setIfInBounds]
theorem setA_get : ∀ (vs : List Value) (cur : Array Value) (o k : Nat), (setA cur o vs)[k]? = if o ≤ k ∧ k < o + vs.length ∧ k < cur.size then vs[k - o]? else cur[k]?
  | [], cur, o, k => by rw [setA, if_neg (by rw [List.length_nil]; omega)]
  | v :: r, cur, o, k => by
    rw [setA, setA_get r, Array.size_setIfInBounds, List.length_cons]
    by_cases h1 : o = k
    · subst h1
      rw [if_neg (by omega)]
      by_cases h2 : o < cur.size
      · rw [if_pos ⟨Nat.le_refl _, by omega, h2⟩]
        simp [h2]
      · rw [if_neg (by omega)]
        simp [h2]
    · by_cases h3 : o + 1 ≤ k ∧ k < o + 1 + r.length ∧ k < cur.size
      · rw [if_pos h3, if_pos (by omega), show k - o = k - (o + 1) + 1 by omega, List.getElem?_cons_succ]
      · rw [if_neg h3, if_neg (by omega), Array.getElem?_setIfInBounds, if_neg h1]
theorem heap_setCells (b : Nat) (t : TypeId) (fz : Nat × Nat) : ∀ (vs : List Value) (o : Nat) (w : World) (cur : Array Value), w.heap[b]? = some (.cells cur t fz) → (w.setCells b o vs).heap[b]? = some (.cells (setA cur o vs) t fz)
  | [], _, _, _, h => h
  | v :: r, o, w, cur, h => heap_setCells b t fz r (o + 1) _ _ (by simp [World.setCell, Array.getElem?_modify, h])
theorem setCells_other (b : Nat) : ∀ (vs : List Value) (o : Nat) (w : World) (j : Nat), j ≠ b → (w.setCells b o vs).heap[j]? = w.heap[j]?
  | [], _, _, _, _ => rfl
  | v :: r, o, w, j, h => (setCells_other b r (o + 1) _ j h).trans (Below.heap_setCell _ _ _ _ h)
theorem setCells_fix (b : Nat) : ∀ (vs : List Value) (o : Nat) (w : World), (w.setCells b o vs).os = w.os ∧ (w.setCells b o vs).tape = w.tape ∧ (w.setCells b o vs).output = w.output ∧ (w.setCells b o vs).heap.size = w.heap.size
  | [], _, _ => ⟨rfl, rfl, rfl, rfl⟩
  | v :: r, o, w => by
    obtain ⟨h1, h2, h3, h4⟩ := setCells_fix b r (o + 1) (w.setCell ⟨b, o, none⟩ v)
    exact ⟨h1, h2, h3, h4.trans (by simp [World.setCell])⟩
/-! ### slices.Insert -/
def isStrV : Value → Bool
  | .string _ => true
  | _ => false
theorem isStrV.flat {v : Value} (h : isStrV v = true) : flat1 v = true ∧ v.oneCell' = true := by
  cases v <;> first | exact ⟨rfl, rfl⟩ | cases h
def insL (l : List Value) (i : Nat) (v : Value) : List Value := l.take i ++ v :: l.drop i
theorem insL_len (l : List Value) (i : Nat) (v : Value) : (insL l i v).length = l.length + 1 := by
  unfold insL
  rw [List.length_append, List.length_cons, List.length_take, List.length_drop]
  omega
theorem insL_get (l : List Value) (i : Nat) (v : Value) (hi : i ≤ l.length) (k : Nat) : (insL l i v)[k]? = if k < i then l[k]? else if k = i then some v else l[k - 1]? := by
  unfold insL
  have hl : (l.take i).length = i := by rw [List.length_take]; omega
  by_cases h1 : k < i
  · rw [if_pos h1, List.getElem?_append_left (by omega), List.getElem?_take_of_lt h1]
  · rw [if_neg h1, List.getElem?_append_right (by omega), hl]
    by_cases h2 : k = i
    · subst h2
      rw [if_pos rfl, Nat.sub_self, List.getElem?_cons_zero]
    · rw [if_neg h2, show k - i = (k - 1 - i) + 1 by omega, List.getElem?_cons_succ, List.getElem?_drop]
      congr 1
      omega
def isStrD (d : Option TypeDesc) : Bool := match d with
  | some .string => true
  | _ => false
theorem isStrD_ok {d : Option TypeDesc} (h : isStrD d = true) : d = some .string := by
  unfold isStrD at h
  split at h
  · rfl
  · cases h
def xIns (C : Cfg) (tS : TypeId) (args : List Value) (s : AS) : Option (Value × AS) := match args with
  | [.slice (some ⟨k, o, some p⟩) n c, .int .i64 (.ofNat i), .slice (some ⟨kv, ov, none⟩) m mc] => match s.h.get k, s.h.get kv with
    | some (.cells cs e _), some (.cells vs e' _) => match vs.toList with
      | [v] => if o = 0 ∧ p = 0 ∧ ov = 0 ∧ m = 1 ∧ mc = 1 ∧ n = c ∧ cs.size = n ∧ i < n ∧ n ≤ 100000 ∧ e = tS ∧ e' = tS ∧ isStrD (C.und tS) = true ∧ C.size tS = some 1 ∧ cs.toList.all isStrV = true ∧ isStrV v = true ∧ kv ≠ k ∧ s.n < 99999999 ∧ k < s.n then
          some (.slice (some ⟨s.n, 0, some 0⟩) (n + 1) (n + 1), ⟨(s.h.put 100000000 k none).put 100000000 s.n (some (.cells (insL cs.toList i v).toArray tS (0, 0))), s.n + 1⟩) else none
      | _ => none
    | _, _ => none
  | _ => none
theorem VRl.flats {ι : Emb} {l l' : List Value} (h : VRl ι l l') (hf : ∀ v ∈ l, flat1 v = true) : l' = l := by
  refine List.ext_getElem? fun i => ?_
  cases hl : l[i]? with
  | none =>
    rw [List.getElem?_eq_none_iff] at hl
    rw [List.getElem?_eq_none (by rw [← h.1]; exact hl)]
  | some v =>
    have hi := (List.getElem?_eq_some_iff.1 hl).1
    have hl' : l'[i]? = some (l'[i]'(by rw [← h.1]; exact hi)) := List.getElem?_eq_getElem _
    rw [hl', VR.flat_eq (hf v (List.mem_of_getElem? hl)) (h.2 i _ _ hl hl')]
theorem xIns_ok {P : Program} {C : Cfg} (hC : C.ok P) {f : FuncId} {tS : TypeId} {args : List Value} {s s' : AS} {v : Value}
    (H1 : ∀ (b n c i vb : Nat) (cs : List Value) (v : Value) (w : World), i < n → n + 1 ≤ c → c ≤ 9223372036854775807 → vb ≠ b → cs.length = n → (∀ j v, cs[j]? = some v → w.cell? ⟨b, 0 + j, none⟩ = some v) → (∀ j, j < n + 1 → (w.cell? ⟨b, 0 + j, none⟩).isSome = true) → (∀ j, j < n + 1 → w.frozen? ⟨b, 0 + j, none⟩ = false) →
      (∀ j u, [v][j]? = some u → w.cell? ⟨vb, 0 + j, none⟩ = some u) → (∀ v ∈ cs, v.oneCell' = true) → (∀ u ∈ [v], u.oneCell' = true) → ∀ (tA tB : TypeId) (kA kB : Nat), w.shape? vb = some (tA, kA) → w.shape? b = some (tB, kB) → kB ≠ 0 → w.frozen? ⟨vb, 0, none⟩ = false → w.frozen? ⟨vb, kA, none⟩ = false →
      Calls P f #[.slice (some ⟨b, 0, none⟩) n c, .int .i64 i, .slice (some ⟨vb, 0, none⟩) 1 1] w fun e w' => e = .returned (.slice (some ⟨b, 0, none⟩) (n + 1) c) ∧ w' = (w.drew.setCells b (0 + (i + 1)) (cs.drop i)).setCells b (0 + i) [v])
    (H2 : ∀ (b n c i vb : Nat) (cs : List Value) (v : Value) (w : World), i < n → n ≤ c → c < n + 1 → (n + 1) * 16 ≤ 140737488355328 → cs.length = n → (∀ j v, cs[j]? = some v → w.cell? ⟨b, 0 + j, none⟩ = some v) → (∀ j u, [v][j]? = some u → w.cell? ⟨vb, 0 + j, none⟩ = some u) → (∀ v ∈ cs, v.oneCell' = true) → (∀ u ∈ [v], u.oneCell' = true) →
      Calls P f #[.slice (some ⟨b, 0, none⟩) n c, .int .i64 i, .slice (some ⟨vb, 0, none⟩) 1 1] w fun e w' => e = .returned (.slice (some ⟨w.heap.size, 0, none⟩) (n + 1) (grownCap w (n + 1) c tS)) ∧
        w' = (((w.alloc (.cells ((cs.take i).toArray ++ Builtin.zeroCells (Value.string ⟨#[]⟩).cells (n + 1 - i) ++ Builtin.zeroCells (Value.string ⟨#[]⟩).cells (grownCap w (n + 1) c tS - (n + 1))) tS)).drew.setCells w.heap.size i [v]).drew).setCells w.heap.size (i + 1) (cs.drop i))
    (h : xIns C tS args s = some (v, s')) : AnsOk P C f args s v s' := by
  unfold xIns at h
  split at h
  rotate_left
  · cases h
  rename_i k o p n c i kv ov m mc
  split at h
  rotate_left
  · cases h
  rename_i cs e fr vs e' fr' hk hkv
  split at h
  rotate_left
  · cases h
  rename_i u hvs
  split at h
  rotate_left
  · cases h
  rename_i hq
  obtain ⟨rfl, rfl, rfl, rfl, rfl, rfl, hn, hi, hn2, he1, he2, hu, hz, hcs, huv, hne, hsn, hks⟩ := hq
  cases h
  rw [he1] at hk
  rw [he2] at hkv
  replace hu := isStrD_ok hu
  intro ι w args' hr ha
  obtain ⟨a1, a2, a3, rfl⟩ : ∃ a b c, args' = [a, b, c] := by
    have := ha.1
    match args', this with
    | [a, b, c], _ => exact ⟨a, b, c, rfl⟩
  have e1 := ha.2 0 _ _ rfl rfl
  have e2 := VR.flatE (v := .int .i64 (.ofNat i)) rfl (ha.2 1 _ _ rfl rfl)
  have e3 := ha.2 2 _ _ rfl rfl
  subst e2
  have hcz : P.cellsOf tS = 1 := Cfg.cellsOf hC hz
  have hnu8 : ¬ P.underlying tS = some (.int .u8) := fun h => by rw [Cfg.und_ok hC hu] at h; cases h
  obtain ⟨b, cur, fb, hb, hw, hfr, hs, hv⟩ := hr.row hk
  obtain ⟨vb, cur2, fb2, hb2, hw2, hfr2, hs2, hv2⟩ := hr.row hkv
  obtain rfl : fb = (0, 0) := (hr.fru hk hb hw).resolve_right hnu8
  obtain rfl : fb2 = (0, 0) := (hr.fru hkv hb2 hw2).resolve_right hnu8
  have hfl : ∀ v ∈ cs.toList, flat1 v = true ∧ v.oneCell' = true := fun v hv => isStrV.flat (List.all_eq_true.1 hcs v hv)
  have hcur := hv.flats fun v hv => (hfl v hv).1
  have hvs2 := hv2.flats (fun v hv => by
    rw [hvs, List.mem_singleton] at hv
    subst hv
    exact (isStrV.flat huv).1)
  have hvsz : vs.size = 1 := by rw [← Array.length_toList, hvs]; rfl
  rw [hcz, Nat.mul_one] at hs hs2
  rw [hvsz, hvs] at hvs2
  have hcl : cs.toList.length = n := by rw [Array.length_toList, hn]
  cases e3 with
  | slX _ _ hb3 =>
    rw [hb2] at hb3
    cases hb3
    cases e1 with
    | slG _ _ hb4 hcm =>
      rw [hb] at hb4
      cases hb4
      have hbv : vb ≠ b := fun e => hne (hr.inj kv k b (by show s.h.get kv ≠ none; rw [hkv]; exact fun e => by cases e) (by show s.h.get k ≠ none; rw [hk]; exact fun e => by cases e) (e ▸ hb2) hb)
      have hcell : ∀ j v, cs.toList[j]? = some v → w.cell? ⟨b, 0 + j, none⟩ = some v := fun j v hj => by
        have hjl := (List.getElem?_eq_some_iff.1 hj).1
        rw [← hcur, List.getElem?_take_of_lt (by rw [hn]; omega), Array.getElem?_toList] at hj
        simp only [World.cell?, hw, Nat.zero_add]
        exact hj
      have hcellv : ∀ j x, [u][j]? = some x → w.cell? ⟨vb, 0 + j, none⟩ = some x := fun j x hj => by
        have hjl := (List.getElem?_eq_some_iff.1 hj).1
        have hj2 := hj
        rw [← hvs2, List.getElem?_take_of_lt (by simpa using hjl), Array.getElem?_toList] at hj2
        simp only [World.cell?, hw2, Nat.zero_add]
        exact hj2
      have h1u : ∀ x ∈ [u], x.oneCell' = true := fun x hx => by
        rw [List.mem_singleton] at hx
        subst hx
        exact (isStrV.flat huv).2
      have hks0 : k ≠ s.n := by omega
      have hget : ∀ j, ((s.h.put 100000000 k none).put 100000000 s.n (some (.cells (insL cs.toList i u).toArray tS (0, 0)))).get j = if j = s.n then some (.cells (insL cs.toList i u).toArray tS (0, 0)) else if j = k then none else s.h.get j := fun j => by
        rw [T.get_put _ _ _ _ _ (by omega), T.get_put _ _ _ _ _ (by omega)]
      have hcurG : ∀ j, j < n → cur[j]? = cs.toList[j]? := fun j hj => by
        rw [← hcur, List.getElem?_take_of_lt (by omega), Array.getElem?_toList]
      have hIns : ∀ (κ : Emb) (c' : Array Value), (∀ j, j < n + 1 → c'[j]? = (insL cs.toList i u)[j]?) → ∀ j (h : j < (insL cs.toList i u).toArray.size) (h' : j < c'.size), VR κ (insL cs.toList i u).toArray[j] c'[j] := fun κ c' hc j h h' => by
        have hj : j < n + 1 := by
          have h := h
          rw [List.size_toArray, insL_len, hcl] at h
          exact h
        have e := hc j hj
        rw [Array.getElem?_eq_getElem h', ← List.getElem?_toArray, Array.getElem?_eq_getElem h] at e
        rw [Option.some.inj e]
        refine VR.flat1 κ ?_
        have hm : (insL cs.toList i u).toArray[j] ∈ insL cs.toList i u := by
          rw [List.getElem_toArray]
          exact List.getElem_mem _
        rcases List.mem_append.1 hm with hm | hm
        · exact (hfl _ (List.mem_of_mem_take hm)).1
        · rcases List.mem_cons.1 hm with hm | hm
          · rw [hm]; exact (isStrV.flat huv).1
          · exact (hfl _ (List.mem_of_mem_drop hm)).1
      have hnx : n + ι.x k = cur.size := by rw [hs, hn]
      by_cases hroom : n + 1 ≤ n + ι.x k
      · have hcall := H1 b n (n + ι.x k) i vb cs.toList u w hi hroom (by unfold maxLen at hcm; omega) hbv hcl hcell (fun j hj => by simp only [World.cell?, hw, Nat.zero_add]; simp; omega) (fun j _ => by simp [World.frozen?, hw]) hcellv (fun v hv => (hfl v hv).2) h1u
          tS tS cur2.size cur.size (by simp [World.shape?, hw2]) (by simp [World.shape?, hw]) (by omega) (by simp [World.frozen?, hw2]) (by simp [World.frozen?, hw2])
        refine hcall.mono ?_
        rintro en w' ⟨rfl, rfl⟩
        rw [Nat.zero_add, Nat.zero_add]
        obtain ⟨p1, p2, p3, p4⟩ := setCells_fix b (cs.toList.drop i) (i + 1) w.drew
        obtain ⟨q1, q2, q3, q4⟩ := setCells_fix b [u] i (w.drew.setCells b (i + 1) (cs.toList.drop i))
        have hx : (ι.add s.n b (ι.x k - 1)).x s.n = ι.x k - 1 := Emb.add_x ..
        refine ⟨ι.add s.n b (ι.x k - 1), _, rfl, Tr.turn hr (k := k) (q := s.n) (by show s.h.get k ≠ none; rw [hk]; exact fun e => by cases e) hb (Nat.le_refl _) hget (by show s.n < s.n + 1; omega) (q1.trans p1) (q2.trans p2) (q3.trans p3) (q4.trans p4)
          (heap_setCells b _ _ _ i _ _ (heap_setCells b _ _ _ (i + 1) w.drew cur hw)) (fun j hj => (setCells_other b _ i _ j hj).trans (setCells_other b _ (i + 1) _ j hj)) ⟨rfl, ⟨fun j _ => by simp, .inl rfl⟩, ?_, hIns _ _ fun j hj => ?_⟩, ?_⟩
        · have h8 : (insL cs.toList i u).toArray.size = n + 1 := by rw [List.size_toArray, insL_len, hcl]
          rw [setA_size, setA_size, h8, hcz]
          omega
        · rw [setA_get, setA_get, setA_size, insL_get _ _ _ (by omega)]
          by_cases h1 : j < i
          · rw [if_neg (by omega), if_neg (by omega), if_pos h1, hcurG j (by omega)]
          · rw [if_neg h1]
            by_cases h2 : j = i
            · subst h2
              rw [if_pos ⟨Nat.le_refl _, by simp, by omega⟩, if_pos rfl, Nat.sub_self]
              rfl
            · rw [if_neg (by simp; omega), if_neg h2, if_pos ⟨by omega, by rw [List.length_drop, hcl]; omega, by omega⟩, List.getElem?_drop]
              congr 1
              omega
        · have := VR.slG (ι := ι.add s.n b (ι.x k - 1)) (o := 0) (n + 1) (n + 1) (Emb.add_b ι s.n b (ι.x k - 1)) (by rw [hx]; omega)
          rw [hx, show n + 1 + (ι.x k - 1) = n + ι.x k by omega] at this
          exact this
      · have hcall := H2 b n (n + ι.x k) i vb cs.toList u w hi (by omega) (by omega) (by omega) hcl hcell hcellv (fun v hv => (hfl v hv).2) h1u
        refine hcall.mono ?_
        rintro en w' ⟨rfl, rfl⟩
        have hge := grownCap_ge w (n + 1) (n + ι.x k) tS
        have hle := grownCap_le_maxLen w (n + 1) (n + ι.x k) tS (by unfold maxLen; omega)
        generalize grownCap w (n + 1) (n + ι.x k) tS = cap at *
        have hz1 : ∀ m, (Builtin.zeroCells (Value.string ⟨#[]⟩).cells m).size = m := fun m => by simp [Builtin.zeroCells, Value.cells]
        have hsz : ((cs.toList.take i).toArray).size = i := by simp; omega
        have hnew := heap_alloc_new w (.cells ((cs.toList.take i).toArray ++ Builtin.zeroCells (Value.string ⟨#[]⟩).cells (n + 1 - i) ++ Builtin.zeroCells (Value.string ⟨#[]⟩).cells (cap - (n + 1))) tS)
        obtain ⟨p1, p2, p3, p4⟩ := setCells_fix w.heap.size [u] i (w.alloc (.cells ((cs.toList.take i).toArray ++ Builtin.zeroCells (Value.string ⟨#[]⟩).cells (n + 1 - i) ++ Builtin.zeroCells (Value.string ⟨#[]⟩).cells (cap - (n + 1))) tS)).drew
        have hW1g := heap_setCells w.heap.size _ _ [u] i (w.alloc (.cells ((cs.toList.take i).toArray ++ Builtin.zeroCells (Value.string ⟨#[]⟩).cells (n + 1 - i) ++ Builtin.zeroCells (Value.string ⟨#[]⟩).cells (cap - (n + 1))) tS)).drew _ hnew
        generalize hW1 : (w.alloc (.cells ((cs.toList.take i).toArray ++ Builtin.zeroCells (Value.string ⟨#[]⟩).cells (n + 1 - i) ++ Builtin.zeroCells (Value.string ⟨#[]⟩).cells (cap - (n + 1))) tS)).drew.setCells w.heap.size i [u] = W1 at *
        obtain ⟨q1, q2, q3, q4⟩ := setCells_fix w.heap.size (cs.toList.drop i) (i + 1) W1.drew
        have hx : (ι.add s.n w.heap.size (cap - (n + 1))).x s.n = cap - (n + 1) := Emb.add_x ..
        have hbel : Below w.heap.size w (W1.drew.setCells w.heap.size (i + 1) (cs.toList.drop i)) := ⟨q1.trans p1, q2.trans p2, q3.trans p3, by rw [q4]; show w.heap.size ≤ W1.heap.size; rw [p4]; show w.heap.size ≤ (w.heap.push _).size; simp, fun j hj => by
          rw [setCells_other _ _ _ _ _ (by omega)]
          show W1.heap[j]? = _
          rw [← hW1, setCells_other _ _ _ _ _ (by omega)]
          show (w.heap.push _)[j]? = _
          rw [Array.getElem?_push, if_neg (by omega)]⟩
        have hm1 : ∀ j, (AS.mk (s.h.put 100000000 s.n (some (.cells (insL cs.toList i u).toArray tS (0, 0)))) (s.n + 1)).mem.get j = if j = s.n then some (.cells (insL cs.toList i u).toArray tS (0, 0)) else s.mem.get j := fun j => by
          show (s.h.put 100000000 s.n _).get j = _
          rw [T.get_put _ _ _ _ _ (by omega)]
          rfl
        refine ⟨ι.add s.n w.heap.size (cap - (n + 1)), _, rfl, Tr.less (Tr.fresh hr hbel (Nat.le_refl _) hm1 (by show s.n < s.n + 1; omega) (heap_setCells w.heap.size _ _ _ (i + 1) W1.drew _ hW1g) ⟨rfl, ⟨fun j _ => by simp, .inl rfl⟩, ?_, hIns _ _ fun j hj => ?_⟩) (fun j o hj => ?_) rfl, ?_⟩
        · have h8 : (insL cs.toList i u).toArray.size = n + 1 := by rw [List.size_toArray, insL_len, hcl]
          rw [setA_size, setA_size, Array.size_append, Array.size_append, hsz, hz1, hz1, h8, hcz]
          omega
        · rw [setA_get, setA_size, setA_get, Array.size_append, Array.size_append, hsz, hz1, hz1, insL_get _ _ _ (by omega)]
          by_cases h1 : j < i
          · rw [if_neg (by omega), if_neg (by omega), if_pos h1, Array.getElem?_append_left (by rw [Array.size_append, hsz, hz1]; omega), Array.getElem?_append_left (by rw [hsz]; exact h1), List.getElem?_toArray, List.getElem?_take_of_lt h1]
          · rw [if_neg h1]
            by_cases h2 : j = i
            · subst h2
              rw [if_neg (by omega), if_pos ⟨Nat.le_refl _, by simp, by omega⟩, if_pos rfl, Nat.sub_self]
              rfl
            · rw [if_neg h2, if_pos ⟨by omega, by rw [List.length_drop, hcl]; omega, by omega⟩, List.getElem?_drop]
              congr 1
              omega
        · have hj : (AS.mem ⟨_, _⟩).get j = some o := hj
          rw [hm1]
          have hj2 : ((s.h.put 100000000 k none).put 100000000 s.n (some (.cells (insL cs.toList i u).toArray tS (0, 0)))).get j = some o := hj
          rw [hget] at hj2
          by_cases e9 : j = s.n
          · rw [if_pos e9] at hj2 ⊢; exact hj2
          · rw [if_neg e9] at hj2 ⊢
            by_cases e8 : j = k
            · rw [if_pos e8] at hj2; cases hj2
            · rw [if_neg e8] at hj2; exact hj2
        · have := VR.slG (ι := ι.add s.n w.heap.size (cap - (n + 1))) (o := 0) (n + 1) (n + 1) (Emb.add_b ι s.n w.heap.size (cap - (n + 1))) (by rw [hx]; omega)
          rw [hx, show n + 1 + (cap - (n + 1)) = cap by omega] at this
          exact this
end
end Go.Proofs.YtdcioacjhpnihaaGreatDoor
namespace Go.Proofs.YtdcioacjhpnihaaGreatDoor
open Go Go.RowKit Go.Lib
noncomputable section

/-- one block more, wherever it lies -/
theorem Tr.freshAt {P : Program} {G : Nat} {ι : Emb} {m m' : Mem} {w w' : World} (h : Rep P G ι m w) (hb : Below w.heap.size w w') {g : Nat} (hg0 : w.heap.size ≤ g) {k x : Nat} {o o' : Obj} (hk : m.n ≤ k) (hm : ∀ j, m'.get j = if j = k then some o else m.get j) (hkn : k < m'.n)
    (hg : w'.heap[g]? = some o') (ho : objR P (ι.add k g x) x o o') : Tr P G ι m w (ι.add k g x) m' w' := by
  have hkb := h.new k hk
  have hl : ι.le (ι.add k g x) := Emb.le_add hkb
  have hold : ∀ j, j ≠ k → (ι.add k g x).b j = ι.b j ∧ m'.get j = m.get j := fun j e => by rw [hm, if_neg e]; simp [Emb.add, e]
  have hrng : ∀ j c, m'.get j ≠ none → (ι.add k g x).b j = some c → c < w.heap.size → ∃ i, m.get i ≠ none ∧ ι.b i = some c := fun j c hj hc hlt => by
    by_cases e : j = k
    · subst e
      rw [Emb.add_b] at hc
      cases hc
      omega
    · rw [(hold j e).2] at hj
      rw [(hold j e).1] at hc
      exact ⟨j, hj, hc⟩
  refine ⟨hl, ⟨fun j oj hj => ?_, fun i j c hi hj ei ej => ?_, fun j hj => ?_, fun q hq => (hl q q (h.glob q hq)).1, h.inv.step hl (fun j hj _ => hb.block j hj) hrng (by omega) fun _ hn => by rw [(hold 15 (by have := h.inv.low; omega)).1]; exact hn⟩, hb.os, hb.tape, hb.output, hb.size, fun j hj _ => hb.block j hj, hrng, fun j hj => ?_, by omega, fun j hj hn => ?_⟩
  · by_cases e : j = k
    · subst e
      rw [hm, if_pos rfl] at hj
      cases hj
      exact ⟨_, o', Emb.add_b .., hg, by rw [Emb.add_x]; exact ho⟩
    · rw [(hold j e).2] at hj
      obtain ⟨c, oj', hc, hw', hr'⟩ := h.obj j oj hj
      exact ⟨c, oj', (hl j c hc).1, by rw [hb.block c (Array.getElem?_eq_some_iff.1 hw').1]; exact hw', by rw [(hl j c hc).2]; exact hr'.mono hl⟩
  · by_cases e1 : i = k <;> by_cases e2 : j = k
    · omega
    · subst e1
      rw [Emb.add_b] at ei
      cases ei
      rw [(hold j e2).1] at ej
      rw [(hold j e2).2] at hj
      have := h.lt hj ej
      omega
    · subst e2
      rw [Emb.add_b] at ej
      cases ej
      rw [(hold i e1).1] at ei
      rw [(hold i e1).2] at hi
      have := h.lt hi ei
      omega
    · rw [(hold i e1).1] at ei
      rw [(hold i e1).2] at hi
      rw [(hold j e2).1] at ej
      rw [(hold j e2).2] at hj
      exact h.inj i j c hi hj ei ej
  · have : j ≠ k := by omega
    rw [(hold j this).1]
    exact h.new j (by omega)
  · by_cases e : j = k
    · exact .inr (e ▸ hk)
    · rw [(hold j e).2] at hj
      exact .inl hj
  · rw [(hold j (by omega)).1]
    exact hn
/-! ### sorted keys -/
def insN (x : Nat) : List Nat → List Nat
  | [] => [x]
  | y :: l => if x ≤ y then x :: y :: l else y :: insN x l
def isort : List Nat → List Nat
  | [] => []
  | x :: l => insN x (isort l)
theorem insN_mem {x y : Nat} : ∀ {l : List Nat}, y ∈ insN x l ↔ y = x ∨ y ∈ l
  | [] => by simp [insN]
  | z :: l => by
    unfold insN
    split
    · simp
    · rw [List.mem_cons, insN_mem (l := l), List.mem_cons]
      exact ⟨fun h => by rcases h with h | h | h <;> simp [h], fun h => by rcases h with h | h | h <;> simp [h]⟩
theorem isort_mem {y : Nat} : ∀ {l : List Nat}, y ∈ isort l ↔ y ∈ l
  | [] => by simp [isort]
  | x :: l => by rw [isort, insN_mem, isort_mem, List.mem_cons]
theorem insN_len (x : Nat) : ∀ l : List Nat, (insN x l).length = l.length + 1
  | [] => rfl
  | y :: l => by
    unfold insN
    split
    · rfl
    · rw [List.length_cons, insN_len x l, List.length_cons]
theorem isort_len : ∀ l : List Nat, (isort l).length = l.length
  | [] => rfl
  | x :: l => by rw [isort, insN_len, isort_len l, List.length_cons]
def upB : List Nat → Bool
  | x :: y :: l => Nat.blt x y && upB (y :: l)
  | _ => true
theorem upB_ok : ∀ {l : List Nat}, upB l = true → l.Pairwise (· < ·)
  | [], _ => .nil
  | [x], _ => by simp
  | x :: y :: l, h => by
    unfold upB at h
    rw [Bool.and_eq_true] at h
    have h1 : x < y := Nat.le_of_ble_eq_true h.1
    have h2 := upB_ok h.2
    refine List.pairwise_cons.2 ⟨fun z hz => ?_, h2⟩
    rcases List.mem_cons.1 hz with rfl | hz
    · exact h1
    · exact Nat.lt_trans h1 ((List.pairwise_cons.1 h2).1 z hz)
def natKey (v : Value) : Option Nat := match v with
  | .tuple ⟨[.int .i64 (.ofNat n), _]⟩ => if n < 1000000 then some n else none
  | _ => none
theorem natKey_ok {v : Value} {n : Nat} (h : natKey v = some n) : (∃ u, v = pairOf n u) ∧ n < 1000000 := by
  unfold natKey at h
  split at h
  · rename_i k u
    split at h
    · rename_i hk
      cases h
      exact ⟨⟨u, rfl⟩, hk⟩
    · cases h
  · cases h
def natKeys : List Value → Option (List Nat)
  | [] => some []
  | v :: l => match natKey v, natKeys l with
    | some n, some r => some (n :: r)
    | _, _ => none
theorem natKeys_ok : ∀ {l : List Value} {r : List Nat}, natKeys l = some r → smallK l ∧ (∀ n ∈ r, ∃ u, pairOf n u ∈ l) ∧ (∀ (n : Int) u, pairOf n u ∈ l → ∃ k ∈ r, n = ((k : Nat) : Int)) ∧ l.length = r.length
  | [], r, h => by
    cases h
    exact ⟨fun p h => (by cases h), fun n h => (by cases h), fun n u h => (by cases h), rfl⟩
  | v :: l, r, h => by
    unfold natKeys at h
    split at h
    · rename_i n r0 h1 h2
      cases h
      obtain ⟨⟨u, rfl⟩, h3⟩ := natKey_ok h1
      obtain ⟨i1, i2, i3, i4⟩ := natKeys_ok h2
      refine ⟨fun p hp => ?_, fun k hk => ?_, fun k w hk => ?_, by simp [i4]⟩
      · rcases List.mem_cons.1 hp with rfl | hp
        · exact ⟨n, u, rfl, h3⟩
        · exact i1 p hp
      · rcases List.mem_cons.1 hk with rfl | hk
        · exact ⟨u, List.mem_cons_self⟩
        · obtain ⟨w, hw⟩ := i2 k hk
          exact ⟨w, List.mem_cons_of_mem _ hw⟩
      · rcases List.mem_cons.1 hk with he | hk
        · have : k = n := by
            unfold pairOf at he
            injection he with he
            have := congrArg (fun a => a[0]?) he
            simpa using this
          exact ⟨n, List.mem_cons_self, this⟩
        · obtain ⟨k', j1, j2⟩ := i3 k w hk
          exact ⟨k', List.mem_cons_of_mem _ j1, j2⟩
    · cases h
/-! ### a map whose order may be anything, or is known -/
def pairE (e : MapEntry) : Value := .tuple ⟨[e.key, e.val]⟩
theorem natKeys_keys : ∀ {l : List Value} {r : List Nat}, natKeys l = some r → l.map keyP = r.map fun (n : Nat) => Value.int .i64 ((n : Nat) : Int)
  | [], r, h => by cases h; rfl
  | v :: l, r, h => by
    unfold natKeys at h
    split at h
    · rename_i n r0 h1 h2
      cases h
      obtain ⟨⟨u, rfl⟩, _⟩ := natKey_ok h1
      rw [List.map_cons, List.map_cons, natKeys_keys h2]
      rfl
    · cases h
theorem insN_perm (x : Nat) : ∀ l : List Nat, (insN x l).Perm (x :: l)
  | [] => .refl _
  | y :: l => by
    unfold insN
    split
    · exact .refl _
    · exact ((insN_perm x l).cons y).trans (.swap x y l)
theorem isort_perm : ∀ l : List Nat, (isort l).Perm l
  | [] => .refl _
  | x :: l => (insN_perm x _).trans ((isort_perm l).cons x)
theorem keys_nodup {l : List Value} {r : List Nat} (h : natKeys l = some r) (hu : upB (isort r) = true) : (l.map keyP).Nodup := by
  rw [natKeys_keys h, List.Nodup, List.pairwise_map]
  have h1 : (isort r).Nodup := (upB_ok hu).imp fun h => Nat.ne_of_lt h
  exact ((isort_perm r).nodup h1).imp fun h e => by injection e with _ e; exact h (by exact_mod_cast e)
def umapOf (s : AS) (k : Nat) : Option (Nat × List Value × Nat × Nat × Bool) := match s.h.get k with
  | some (.chan e buf true z a b) => some (e, buf.toList, z, a, b)
  | some (.map es c) => match natKeys (es.toList.map pairE) with
    | some ns => if upB (isort ns) = true ∧ upB (es.toList.map (·.born)) = true ∧ es.toList.all (fun e => Nat.blt e.born c) = true then some (0, es.toList.map pairE, 0, 0, false) else none
    | none => none
  | _ => none
theorem esL_prR {ι : Emb} : ∀ {l m : List MapEntry} {ns : List Nat}, esL ι l m → natKeys (l.map pairE) = some ns → prR ι (l.map pairE) m ∧ m.map (·.key) = (l.map pairE).map keyP ∧ m.map (·.born) = l.map (·.born)
  | [], [], _, _, _ => ⟨trivial, rfl, rfl⟩
  | e :: l, e' :: m, ns, h, hn => by
    obtain ⟨⟨h1, h2, h3⟩, h4⟩ := h
    rw [List.map_cons] at hn
    unfold natKeys at hn
    split at hn
    · rename_i n r0 q1 q2
      obtain ⟨⟨u, hu⟩, _⟩ := natKey_ok q1
      obtain ⟨i1, i2, i3⟩ := esL_prR h4 q2
      obtain ⟨ek, evv, eb⟩ := e
      unfold pairE pairOf at hu
      injection hu with hu
      have hk : ek = .int .i64 (n : Int) := by
        have := congrArg (fun a => a[0]?) hu
        simpa using this
      subst hk
      have hke : e'.key = .int .i64 (n : Int) := VR.flatE (v := .int .i64 (n : Int)) rfl h1
      refine ⟨⟨⟨n, evv, rfl, hke, h2⟩, i1⟩, ?_, ?_⟩
      · rw [List.map_cons, List.map_cons, List.map_cons, i2, hke]
        rfl
      · rw [List.map_cons, List.map_cons, i3, h3]
    · cases hn
theorem umapOf_rep {P : Program} {G : Nat} {ι : Emb} {s : AS} {w : World} (hr : Rep P G ι s.mem w) {k e z a : Nat} {l : List Value} {b : Bool} (h : umapOf s k = some (e, l, z, a, b)) : s.h.get k ≠ none ∧ ∃ q es' c', ι.b k = some q ∧ w.heap[q]? = some (.map es' c') ∧ umapR ι l (.map es' c') := by
  unfold umapOf at h
  split at h
  · rename_i e0 buf z0 a0 b0 heq
    cases h
    obtain ⟨q, es', c', h1, h2, h3⟩ := hr.eumap (k := k) heq
    exact ⟨(by rw [heq]; exact fun e => by cases e), q, es', c', h1, h2, h3⟩
  · rename_i es c heq
    split at h
    · rename_i ns hns
      split at h
      · rename_i hq
        cases h
        obtain ⟨u1, u2, u3⟩ := hq
        obtain ⟨q, es', h1, h2, h3⟩ := hr.emap (k := k) heq
        obtain ⟨p1, p2, p3⟩ := esL_prR h3.l hns
        refine ⟨(by rw [heq]; exact fun e => by cases e), q, es', c, h1, h2, es', c, rfl, ⟨_, .refl _, p1⟩, ?_, fun e he => ?_, ?_⟩
        · rw [p2]
          exact keys_nodup hns u1
        · have : e.born ∈ es'.toList.map (·.born) := List.mem_map.2 ⟨e, he, rfl⟩
          rw [p3] at this
          obtain ⟨e2, h4, h5⟩ := List.mem_map.1 this
          have := List.all_eq_true.1 u3 e2 h4
          rw [← h5]
          exact Nat.le_of_ble_eq_true this
        · rw [p3]
          exact (upB_ok u2).imp fun h => Nat.ne_of_lt h
      · cases h
    · cases h
  · cases h
def castL (ks : List Nat) : List Int := ks.map fun (k : Nat) => (k : Int)
theorem castL_up {ks : List Nat} (h : ks.Pairwise (· < ·)) : (castL ks).Pairwise fun x y => decide (x ≤ y) = true := by
  unfold castL
  rw [List.pairwise_map]
  exact h.imp fun hab => by simp; omega
theorem nodup_up {ks : List Nat} (h : ks.Pairwise (· < ·)) : (castL ks).Nodup := by
  unfold castL
  rw [List.Nodup, List.pairwise_map]
  exact h.imp fun hab => by omega
theorem MapF.perm {P : Program} {W : World} {k : TypeId} (hk : P.underlying k = some (.int .i64)) {b n : Nat} {D : DataW Value} {f : Int → Option Value} {ks : List Nat} (h : MapF .i64 D f) (ho : W.ownsMap P k RV b n D) (hu : ks.Pairwise (· < ·)) (hm : ∀ x : Int, (f x).isSome = true ↔ ∃ i ∈ ks, x = ((i : Nat) : Int)) : (castL ks).Perm (intKeys D) := by
  refine CollectedI.perm (left := fun _ => false) ⟨nodup_up hu, fun x => ⟨fun hx => ⟨?_, rfl⟩, fun hx => ?_⟩⟩ ho (Maps.int_keyed hk) hk (fun _ => rfl)
  · obtain ⟨i, hi, rfl⟩ := List.mem_map.1 hx
    rw [h.has]
    exact (hm _).2 ⟨i, hi, rfl⟩
  · have h1 := hx.1
    rw [h.has] at h1
    obtain ⟨i, hi, rfl⟩ := (hm x).1 h1
    exact List.mem_map.2 ⟨i, hi, rfl⟩
theorem sorted_keys {D : DataW Value} {ks : List Nat} {ss : List Int} (hp : (castL ks).Perm (intKeys D)) (hu : ks.Pairwise (· < ·)) (hs : ss.Perm (intKeys D)) : (ss.mergeSort fun x y => decide (x ≤ y)) = castL ks := by
  rw [mergeSort_of_perm_i (hs.trans hp.symm)]
  exact List.mergeSort_of_pairwise (castL_up hu)
theorem MapF.size {P : Program} {W : World} {k : TypeId} (hk : P.underlying k = some (.int .i64)) {b n : Nat} {D : DataW Value} {f : Int → Option Value} {ks : List Nat} (h : MapF .i64 D f) (ho : W.ownsMap P k RV b n D) (hu : ks.Pairwise (· < ·)) (hm : ∀ x : Int, (f x).isSome = true ↔ ∃ i ∈ ks, x = ((i : Nat) : Int)) : Maps.size D = ks.length := by
  have h1 := (h.perm hk ho hu hm).length_eq
  obtain ⟨es, _, _, _, _, rfl⟩ := ho
  simp only [castL, List.length_map, intKeys] at h1
  rw [Maps.size_eq, h1]
def intsV (ks : List Nat) : List Value := ks.map fun k => .int .i64 (.ofNat k)
def xSort (C : Cfg) (tI : TypeId) (fK : FuncId) (args : List Value) (s : AS) : Option (Value × AS) := match args with
  | [.func (.func g) fs ⟨[.pointer (some ⟨kp, o, none⟩)]⟩] => match s.h.get kp with
    | some (.cells ⟨.map (some km) :: _⟩ _ _) => match umapOf s km with
      | some (_, buf, _, _, _) => match natKeys buf with
        | some ns => if g = fK ∧ fs.isEmpty = true ∧ o = 0 ∧ ns.isEmpty = false ∧ ns.length ≤ 100000 ∧ upB (isort ns) = true ∧ s.n < 99999999 ∧ isIntI (C.und tI) = true ∧ C.size tI = some 1 then
            some (.slice (some ⟨s.n, 0, some 0⟩) (isort ns).length (isort ns).length, ⟨s.h.put 100000000 s.n (some (.cells (intsV (isort ns)).toArray tI (0, 0))), s.n + 1⟩) else none
        | none => none
      | none => none
    | _ => none
  | _ => none
where isIntI (d : Option TypeDesc) : Bool := match d with
  | some (.int .i64) => true
  | _ => false
theorem isIntI_ok {d : Option TypeDesc} (h : xSort.isIntI d = true) : d = some (.int .i64) := by
  unfold xSort.isIntI at h
  split at h
  · rfl
  · cases h
theorem xSort_ok {P : Program} {C : Cfg} (hC : C.ok P) {f : FuncId} {tI : TypeId} {fK : FuncId} {args : List Value} {s s' : AS} {v : Value}
    (H : ∀ (kp b nn : Nat) (D : DataW Value) (w : World), kp < w.heap.size → w.cell? ⟨kp, 0, none⟩ = some (.map (some b)) → w.ownsMap P tI RV b nn D → Maps.size D ≤ 100000 → Calls P f #[.func (.func fK) #[] #[.pointer (some ⟨kp, 0, none⟩)]] w fun e w' => ∃ (v : Value) (ss : List Int), e = .returned v ∧ ss.Perm (intKeys D) ∧
      w'.ownsRow w.heap.size tI 1 v ss.length ((ss.mergeSort (fun x y => decide (x ≤ y))).map fun x => .int .i64 x) ∧ Below w.heap.size w w')
    (h : xSort C tI fK args s = some (v, s')) : AnsOk P C f args s v s' := by
  unfold xSort at h
  split at h
  rotate_left
  · cases h
  rename_i g fs kp o
  split at h
  rotate_left
  · cases h
  rename_i km cs e fr hkp
  split at h
  rotate_left
  · cases h
  rename_i e2 buf z a b2 hkm
  split at h
  rotate_left
  · cases h
  rename_i ns hns
  split at h
  rotate_left
  · cases h
  rename_i hq
  obtain ⟨rfl, hfs, rfl, hne, hlen, hup, hsn, hd, hz⟩ := hq
  cases h
  replace hd := isIntI_ok hd
  have hk := Cfg.und_ok hC hd
  intro ι w args' hr ha
  obtain ⟨a1, rfl⟩ : ∃ b, args' = [b] := List.length_eq_one_iff.1 ha.1.symm
  have e1 := ha.2 0 _ _ rfl rfl
  rw [Array.isEmpty_iff] at hfs
  subst hfs
  cases e1 with
  | func _ hb1 hbv1 hc1 hcv =>
    rename_i bb cc
    have : bb = #[] := Array.eq_empty_of_size_eq_zero hb1.symm
    subst this
    obtain ⟨c0, rfl⟩ : ∃ c0, cc = #[c0] := Array.size_eq_one_iff.1 hc1.symm
    have hp := hcv 0 (by simp) (by simp)
    simp only [List.getElem_toArray, List.getElem_cons_zero] at hp
    cases hp with
    | ptr hbp =>
      rename_i bp
      obtain ⟨b', cur, fb, hb, hw, hfr, hs, hv⟩ := hr.row hkp
      have hbp : ι.b kp = some bp := hbp
      rw [hbp] at hb
      cases hb
      have hcell : ∃ bm, w.cell? ⟨bp, 0, none⟩ = some (.map (some bm)) ∧ ι.b km = some bm := by
        have hcs : 0 < (cs : List Value).length + 1 := by omega
        have h0 : cur.toList[0]? = some (cur[0]'(by rw [hs]; simp; omega)) := by
          rw [Array.getElem?_toList]
          exact Array.getElem?_eq_getElem _
        have h1 := hv.2 0 (.map (some km)) (cur[0]'(by rw [hs]; simp; omega)) rfl (by rw [List.getElem?_take_of_lt (by simp)]; exact h0)
        generalize hcu : cur[0]'(by rw [hs]; simp; omega) = u at h1
        cases h1 with
        | map hm =>
          rename_i bm
          refine ⟨bm, ?_, hm⟩
          have hc0 : cur[0]? = some (.map (some bm)) := by rw [Array.getElem?_eq_getElem (by rw [hs]; simp; omega), hcu]
          unfold World.cell?
          simp only [hw]
          exact hc0
      obtain ⟨bm, hcell, hbm⟩ := hcell
      obtain ⟨_, bm2, es', c', hb3, hw3, hum⟩ := umapOf_rep hr hkm
      rw [hbm] at hb3
      cases hb3
      obtain ⟨n1, n2, n3, n4⟩ := natKeys_ok hns
      obtain ⟨D, f', hown, hF, hL⟩ := umap_own hk hw3 hum n1 (by rw [n4]; exact hlen)
      have hmem : ∀ x : Int, (f' x).isSome = true ↔ ∃ i ∈ isort ns, x = ((i : Nat) : Int) := fun x => by
        constructor
        · intro hx
          obtain ⟨v', hv'⟩ := Option.isSome_iff_exists.1 hx
          obtain ⟨u, hu, _⟩ := hL.2 x v' hv'
          obtain ⟨i, hi, e⟩ := n3 x u hu
          exact ⟨i, isort_mem.2 hi, e⟩
        · rintro ⟨i, hi, rfl⟩
          obtain ⟨u, hu⟩ := n2 i (isort_mem.1 hi)
          obtain ⟨v', hv', _⟩ := hL.1 _ u hu
          rw [hv']
          rfl
      have hu := upB_ok hup
      have hperm := hF.perm hk hown hu hmem
      have hsize := hF.size hk hown hu hmem
      have hlt : bp < w.heap.size := hr.lt (by show s.h.get kp ≠ none; rw [hkp]; exact fun e => by cases e) hbp
      have hlen2 : (isort ns).length ≤ 100000 := by rw [isort_len]; exact hlen
      refine (H bp bm _ D w hlt hcell hown (by rw [hsize]; exact hlen2)).mono ?_
      rintro en w' ⟨v, ss, rfl, hss, hrow, hbel⟩
      rw [sorted_keys hperm hu hss] at hrow
      have hsl : ss.length = (isort ns).length := by
        rw [hss.length_eq, ← hperm.length_eq]
        simp [castL]
      rw [hsl] at hrow
      have hpos : (isort ns).length ≠ 0 := fun h0 => by
        have h1 := List.eq_nil_of_length_eq_zero h0
        cases ns with
        | nil => cases hne
        | cons x ns =>
          have : x ∈ isort (x :: ns) := isort_mem.2 List.mem_cons_self
          rw [h1] at this
          cases this
      rcases hrow.2 with ⟨_, h0⟩ | ⟨g, cap, cur2, rfl, hg0, hg, hcap, hcm, hcs, htk⟩
      · exact absurd h0 hpos
      · rw [Nat.mul_one] at hcs htk
        have hx : (ι.add s.n g (cap - (isort ns).length)).x s.n = cap - (isort ns).length := Emb.add_x ..
        have hvals : (castL (isort ns)).map (fun x => Value.int .i64 x) = intsV (isort ns) := by
          unfold castL intsV
          rw [List.map_map]
          rfl
        have hil : (intsV (isort ns)).toArray.size = (isort ns).length := by simp [intsV]
        have hm1 : ∀ j, (AS.mk (s.h.put 100000000 s.n (some (.cells (intsV (isort ns)).toArray tI (0, 0)))) (s.n + 1)).mem.get j = if j = s.n then some (.cells (intsV (isort ns)).toArray tI (0, 0)) else s.mem.get j := fun j => by
          show (s.h.put 100000000 s.n _).get j = _
          rw [T.get_put _ _ _ _ _ (by omega)]
          rfl
        refine ⟨ι.add s.n g (cap - (isort ns).length), _, rfl, Tr.freshAt hr hbel hg0 (Nat.le_refl _) hm1 (by show s.n < s.n + 1; omega) hg ⟨rfl, ⟨fun j _ => by simp, .inl rfl⟩, ?_, fun j h1 h2 => ?_⟩, ?_⟩
        · rw [hil, hcs, Cfg.cellsOf hC hz]
          omega
        · have hj : j < (isort ns).length := by rw [← hil]; exact h1
          have e1 : cur2[j]? = (intsV (isort ns))[j]? := by
            rw [← hvals, ← htk, List.getElem?_take_of_lt hj, Array.getElem?_toList]
          rw [Array.getElem?_eq_getElem h2, ← List.getElem?_toArray, Array.getElem?_eq_getElem h1] at e1
          rw [Option.some.inj e1]
          refine VR.flat1 _ ?_
          rw [List.getElem_toArray]
          simp only [intsV, List.getElem_map]
          rfl
        · have := VR.slG (ι := ι.add s.n g (cap - (isort ns).length)) (o := 0) (isort ns).length (isort ns).length (Emb.add_b ι s.n g (cap - (isort ns).length)) (by rw [hx]; omega)
          rw [hx, show (isort ns).length + (cap - (isort ns).length) = cap by omega] at this
          exact this
end
end Go.Proofs.YtdcioacjhpnihaaGreatDoor
namespace Go.Proofs.YtdcioacjhpnihaaGreatDoor
open Go Go.RowKit Go.Lib
open Go.WideElems (Fit rd rg rd_key rd_val rg_of)
noncomputable section

def u64Key (v : Value) : Option Nat := match v with
  | .int .u64 (.ofNat n) => if n < 1000000000 then some n else none
  | _ => none
theorem u64Key_ok {v : Value} {n : Nat} (h : u64Key v = some n) : v = .int .u64 ((n : Nat) : Int) ∧ n < 1000000000 := by
  unfold u64Key at h
  split at h
  · split at h
    · rename_i hk
      cases h
      exact ⟨rfl, hk⟩
    · cases h
  · cases h
def u64Keys : List MapEntry → Option (List Nat)
  | [] => some []
  | v :: l => match u64Key v.key, u64Keys l with
    | some n, some r => some (n :: r)
    | _, _ => none
theorem u64Keys_ok : ∀ {l : List MapEntry} {r : List Nat}, u64Keys l = some r → (∀ n ∈ r, n < 1000000000) ∧ l.map (·.key) = r.map (fun (n : Nat) => Value.int .u64 ((n : Nat) : Int))
  | [], r, h => by
    cases h
    exact ⟨fun n h => (by cases h), rfl⟩
  | v :: l, r, h => by
    unfold u64Keys at h
    split at h
    · rename_i n r0 h1 h2
      cases h
      obtain ⟨h3, h4⟩ := u64Key_ok h1
      obtain ⟨i1, i2⟩ := u64Keys_ok h2
      refine ⟨fun k hk => ?_, by simp only [List.map_cons, h3, i2]⟩
      rcases List.mem_cons.1 hk with rfl | hk
      · exact h4
      · exact i1 k hk
    · cases h
def nextN : Nat → List Nat → Nat
  | a, [] => a
  | a, n :: l => nextN (if a < n + 1 then n + 1 else a) l
theorem nextN_ok : ∀ (l : List Nat) (a : Nat), a ≤ nextN a l ∧ (∀ n ∈ l, n + 1 ≤ nextN a l) ∧ (nextN a l = a ∨ ∃ n ∈ l, nextN a l = n + 1)
  | [], a => ⟨Nat.le_refl _, fun n h => (by cases h), .inl rfl⟩
  | m :: l, a => by
    obtain ⟨h1, h2, h3⟩ := nextN_ok l (if a < m + 1 then m + 1 else a)
    have e : nextN a (m :: l) = nextN (if a < m + 1 then m + 1 else a) l := rfl
    rw [e]
    generalize nextN (if a < m + 1 then m + 1 else a) l = r at *
    refine ⟨?_, fun n hn => ?_, ?_⟩
    · split at h1 <;> omega
    · rcases List.mem_cons.1 hn with rfl | hn
      · split at h1 <;> omega
      · exact h2 n hn
    · rcases h3 with h3 | ⟨n, hn, h3⟩
      · split at h3
        · exact .inr ⟨m, List.mem_cons_self, h3⟩
        · exact .inl h3
      · exact .inr ⟨n, List.mem_cons_of_mem _ hn, h3⟩
/-- what wal.next gives -/
def NextIs (f : Int → Option Value) (first v : Int) : Prop := first ≤ v ∧ (∀ x, (f x).isSome = true → x + 1 ≤ v) ∧ (v = first ∨ ∃ x, (f x).isSome = true ∧ v = x + 1)
def xNext (C : Cfg) (tU : TypeId) (args : List Value) (s : AS) : Option (Value × AS) := match args with
  | [.map (some km), .int .u64 (.ofNat first)] => match s.h.get km with
    | some (.map es c) => match u64Keys es.toList with
      | some ns => if isIntU (C.und tU) = true ∧ ns.length ≤ 100000 ∧ upB (isort ns) = true ∧ upB (es.toList.map (·.born)) = true ∧ es.toList.all (fun e => Nat.blt e.born c) = true ∧ first < 1000000000 then some (.int .u64 (.ofNat (nextN first ns)), s) else none
      | none => none
    | _ => none
  | _ => none
where isIntU (d : Option TypeDesc) : Bool := match d with
  | some (.int .u64) => true
  | _ => false
theorem isIntU_ok {d : Option TypeDesc} (h : xNext.isIntU d = true) : d = some (.int .u64) := by
  unfold xNext.isIntU at h
  split at h
  · rfl
  · cases h
theorem xNext_ok {P : Program} {C : Cfg} (hC : C.ok P) {f : FuncId} {tU : TypeId} {args : List Value} {s s' : AS} {v : Value}
    (H : ∀ (b nn : Nat) (D : DataW Value) (g : Int → Option Value) (first : Int) (w : World), w.ownsMap P tU RV b nn D → MapF .u64 D g → (∀ x, (g x).isSome = true → 0 ≤ x ∧ x < 1000000000) → 0 ≤ first ∧ first < 1000000000 → Calls P f #[.map (some b), .int .u64 first] w fun e w' => (∃ v : Int, e = .returned (.int .u64 v) ∧ NextIs g first v) ∧ Below w.heap.size w w')
    (h : xNext C tU args s = some (v, s')) : AnsOk P C f args s v s' := by
  unfold xNext at h
  split at h
  rotate_left
  · cases h
  rename_i km first
  split at h
  rotate_left
  · cases h
  rename_i es c hkm
  split at h
  rotate_left
  · cases h
  rename_i ns hns
  split at h
  rotate_left
  · cases h
  rename_i hq
  obtain ⟨hd, hlen, hup, hbu, hbc, hfi⟩ := hq
  cases h
  replace hd := isIntU_ok hd
  have hk := Cfg.und_ok hC hd
  intro ι w args' hr ha
  obtain ⟨a1, a2, rfl⟩ : ∃ a b, args' = [a, b] := len2 ha.1.symm
  have e1 := ha.2 0 _ _ rfl rfl
  have e2 := VR.flatE (v := .int .u64 (.ofNat first)) rfl (ha.2 1 _ _ rfl rfl)
  subst e2
  cases e1 with
  | map hbm =>
    rename_i bm
    obtain ⟨b2, es', hb2, hw, hes⟩ := hr.emap hkm
    rw [hbm] at hb2
    cases hb2
    obtain ⟨k1, k2⟩ := u64Keys_ok hns
    have hsz : es'.toList.length = es.toList.length := by rw [Array.length_toList, Array.length_toList, hes.1]
    have hkeys : es'.toList.map (·.key) = ns.map (fun (n : Nat) => Value.int .u64 ((n : Nat) : Int)) := by
      rw [← k2]
      refine List.ext_getElem (by simp only [List.length_map]; exact hsz) fun i h1 h2 => ?_
      simp only [List.length_map] at h1 h2
      have h3 := (hes.2 i (by simpa using h2) (by simpa using h1)).1
      rw [List.getElem_map, List.getElem_map, Array.getElem_toList, Array.getElem_toList]
      have h4 : (es.toList.map (·.key))[i]? = some es[i].key := by
        rw [List.getElem?_map, List.getElem?_eq_getElem h2, Array.getElem_toList]
        rfl
      rw [k2, List.getElem?_map] at h4
      cases hn : ns[i]? with
      | none => rw [hn] at h4; cases h4
      | some n =>
        rw [hn] at h4
        simp only [Option.map_some, Option.some.injEq] at h4
        rw [← h4] at h3 ⊢
        exact VR.flatE (v := .int .u64 ((n : Nat) : Int)) rfl h3
    have hborn : es'.toList.map (·.born) = es.toList.map (·.born) := by
      refine List.ext_getElem (by simp only [List.length_map]; exact hsz) fun i h1 h2 => ?_
      simp only [List.length_map] at h1 h2
      rw [List.getElem_map, List.getElem_map, Array.getElem_toList, Array.getElem_toList]
      exact (hes.2 i (by simpa using h2) (by simpa using h1)).2.2
    have hnl : ns.length = es'.toList.length := by
      have := congrArg List.length hkeys
      simpa using this.symm
    have hnn : ns.Nodup := by
      have h1 : (isort ns).Nodup := (upB_ok hup).imp fun h => Nat.ne_of_lt h
      exact (isort_perm ns).nodup h1
    have F : Fit P tU RV es' c := by
      refine fit_ints hk (by rw [← Array.length_toList, ← hnl]; unfold maxLen; omega) (fun e he => ?_) ?_ ?_ fun e he => ?_
      · have : e.born ∈ es'.toList.map (·.born) := List.mem_map.2 ⟨e, he, rfl⟩
        rw [hborn] at this
        obtain ⟨e2, h2, h3⟩ := List.mem_map.1 this
        have := List.all_eq_true.1 hbc e2 h2
        rw [← h3]
        exact Nat.le_of_ble_eq_true this
      · rw [hborn]
        exact (upB_ok hbu).imp fun h => Nat.ne_of_lt h
      · rw [hkeys, List.Nodup, List.pairwise_map]
        exact hnn.imp fun h e => by injection e with _ e; exact h (by exact_mod_cast e)
      · have : e.key ∈ es'.toList.map (·.key) := List.mem_map.2 ⟨e, he, rfl⟩
        rw [hkeys] at this
        obtain ⟨n, hn, h3⟩ := List.mem_map.1 this
        exact ⟨_, h3.symm, WalkArith.wf_u64 (by have := k1 n hn; omega)⟩
    obtain ⟨g, hg⟩ := fv_of hk F
    obtain ⟨f1, f2⟩ := MapF.mem hk F hg
    have hmem : ∀ x : Int, (g x).isSome = true ↔ ∃ i ∈ ns, x = ((i : Nat) : Int) := fun x => by
      constructor
      · intro hx
        obtain ⟨v', hv'⟩ := Option.isSome_iff_exists.1 hx
        obtain ⟨e, he, h2, _⟩ := f2 x v' hv'
        have : e.key ∈ es'.toList.map (·.key) := List.mem_map.2 ⟨e, he, rfl⟩
        rw [hkeys] at this
        obtain ⟨n, hn, h3⟩ := List.mem_map.1 this
        rw [h2] at h3
        injection h3 with _ h3
        exact ⟨n, hn, h3.symm⟩
      · rintro ⟨i, hi, rfl⟩
        have : Value.int .u64 ((i : Nat) : Int) ∈ es'.toList.map (·.key) := by rw [hkeys]; exact List.mem_map.2 ⟨i, hi, rfl⟩
        obtain ⟨e, he, h2⟩ := List.mem_map.1 this
        obtain ⟨x, h3, h4⟩ := f1 e he
        rw [h2] at h3
        injection h3 with _ h3
        rw [h3, h4]
        rfl
    refine (H bm _ (dES P tU es') g first w ⟨es', c, hw, F, Nat.le_refl _, rfl⟩ hg (fun x hx => ?_) (by omega)).mono ?_
    · obtain ⟨i, hi, rfl⟩ := (hmem x).1 hx
      have := k1 i hi
      omega
    · rintro en w' ⟨⟨v, rfl, n1, n2, n3⟩, hbel⟩
      obtain ⟨m1, m2, m3⟩ := nextN_ok ns first
      have : v = ((nextN first ns : Nat) : Int) := by
        have a1 : v ≤ ((nextN first ns : Nat) : Int) := by
          rcases n3 with h | ⟨x, hx, h⟩
          · omega
          · obtain ⟨i, hi, rfl⟩ := (hmem x).1 hx
            have := m2 i hi
            omega
        have a2 : ((nextN first ns : Nat) : Int) ≤ v := by
          rcases m3 with h | ⟨n, hn, h⟩
          · rw [h]; exact n1
          · have := n2 _ ((hmem _).2 ⟨n, hn, rfl⟩)
            omega
        omega
      subst this
      exact ⟨ι, _, rfl, Tr.below hr hbel, .int _ _⟩
end
end Go.Proofs.YtdcioacjhpnihaaGreatDoor
namespace Go.Proofs.YtdcioacjhpnihaaGreatDoor
open Go Go.RowKit Go.Lib Go.ChangeMaps
noncomputable section

theorem hide {p : Prop} (h : p) : Hid p := h
/-- Blocks outside F stay: w' is w with new blocks, and with writes to F's blocks alone. -/
structure Kp (F : Nat → Prop) (w w' : World) : Prop where
  os : w'.os = w.os
  tape : w'.tape = w.tape
  output : w'.output = w.output
  size : w.heap.size ≤ w'.heap.size
  block : ∀ k, k < w.heap.size → ¬ F k → w'.heap[k]? = w.heap[k]?
theorem Kp.refl (F : Nat → Prop) (w : World) : Kp F w w := ⟨rfl, rfl, rfl, Nat.le_refl _, fun _ _ _ => rfl⟩
theorem Kp.trans {F G : Nat → Prop} {a b c : World} (h : Kp F a b) (k : Kp G b c) (hg : ∀ i, G i → F i ∨ a.heap.size ≤ i) : Kp F a c :=
  ⟨k.os.trans h.os, k.tape.trans h.tape, k.output.trans h.output, Nat.le_trans h.size k.size, fun i hi hn => (k.block i (Nat.lt_of_lt_of_le hi h.size) (fun g => (hg i g).elim hn (fun e => by omega))).trans (h.block i hi hn)⟩
theorem Kp.same {F : Nat → Prop} {a b c : World} (h : Kp F a b) (k : Kp F b c) : Kp F a c := h.trans k fun _ hi => .inl hi
theorem Kp.mono {F G : Nat → Prop} {a b : World} (h : Kp F a b) (hg : ∀ i, F i → G i ∨ a.heap.size ≤ i) : Kp G a b := ⟨h.os, h.tape, h.output, h.size, fun i hi hn => h.block i hi fun f => (hg i f).elim hn (fun e => by omega)⟩
theorem Kp.of_below {F : Nat → Prop} {a b : World} (h : Below a.heap.size a b) : Kp F a b := ⟨h.os, h.tape, h.output, h.size, fun i hi _ => h.block i hi⟩
theorem Kp.drew {F : Nat → Prop} {a b : World} (h : Kp F a b) : Kp F a b.drew := ⟨h.os, h.tape, h.output, h.size, h.block⟩
theorem Kp.drewN {F : Nat → Prop} {a b : World} (h : Kp F a b) (n : Nat) : Kp F a (b.drewN n) := ⟨h.os, h.tape, h.output, h.size, h.block⟩
theorem Kp.grown {F : Nat → Prop} {a b c : World} {row : Option Nat} (h : Kp F a b) (hg : b.grownBy c row) (hr : ∀ k, row = some k → F k ∨ a.heap.size ≤ k) : Kp F a c :=
  h.trans (G := fun i => row = some i) ⟨hg.os, hg.tape, hg.output, hg.size, fun k hk hn => hg.block k hk (fun e => hn e.symm)⟩ (fun i hi => hr i hi)
theorem Kp.cell {F : Nat → Prop} {a b : World} (h : Kp F a b) {p : Addr} (hp : p.block < a.heap.size) (hn : ¬ F p.block) : b.cell? p = a.cell? p := World.cell?_of_block (w := a) (h.block p.block hp hn)
/-- blocks that turn: a map's, another map's, an iterator's -/
theorem Tr.merged {P : Program} {G : Nat} {ι : Emb} {m m' : Mem} {w wr : World} (hr : Rep P G ι m w) {k1 k2 b1 b2 : Nat} {o1 o2 : Obj} (h1 : m.get k1 ≠ none) (h2 : m.get k2 ≠ none) (e1 : ι.b k1 = some b1) (e2 : ι.b k2 = some b2) (hkp : Kp (fun k => k = b1 ∨ k = b2) w wr)
    {p1 p2 : Obj} (hp1 : wr.heap[b1]? = some p1) (hp2 : wr.heap[b2]? = some p2) (r1 : objR P ι (ι.x k1) o1 p1) (r2 : objR P ι (ι.x k2) o2 p2) (hm : ∀ j, m'.get j = if j = k1 then some o1 else if j = k2 then some o2 else m.get j) (hn : m'.n = m.n) : Tr P G ι m w ι m' wr := by
  have hd : ∀ j, m'.get j ≠ none → m.get j ≠ none := fun j hj => by
    rw [hm] at hj
    by_cases q1 : j = k1
    · rw [q1]; exact h1
    · rw [if_neg q1] at hj
      by_cases q2 : j = k2
      · rw [q2]; exact h2
      · rw [if_neg q2] at hj; exact hj
  have hkeep : ∀ j, j < w.heap.size → (∀ k, m.get k ≠ none → ι.b k ≠ some j) → wr.heap[j]? = w.heap[j]? := fun j hj hq => hkp.block j hj fun e => by
    rcases e with e | e
    · exact hq k1 h1 (e ▸ e1)
    · exact hq k2 h2 (e ▸ e2)
  refine ⟨ι.le_refl, ⟨fun j o ho => ?_, fun i j b hi hj => hr.inj i j b (hd i hi) (hd j hj), fun j hj => hr.new j (hn ▸ hj), hr.glob, hr.inv.same hd (Nat.le_of_eq hn.symm) hkeep⟩, hkp.os, hkp.tape, hkp.output, hkp.size, hkeep, fun j b hj hb _ => ⟨j, hd j hj, hb⟩, fun j hj => .inl (hd j hj), by rw [hn]; exact Nat.le_refl _, fun _ _ h => h⟩
  · rw [hm] at ho
    by_cases q1 : j = k1
    · subst q1
      rw [if_pos rfl] at ho
      cases ho
      exact ⟨b1, p1, e1, hp1, r1⟩
    · rw [if_neg q1] at ho
      by_cases q2 : j = k2
      · subst q2
        rw [if_pos rfl] at ho
        cases ho
        exact ⟨b2, p2, e2, hp2, r2⟩
      · rw [if_neg q2] at ho
        obtain ⟨b, o', g1, g2, g3⟩ := hr.obj j o ho
        have hj : m.get j ≠ none := by rw [ho]; exact fun e => by cases e
        refine ⟨b, o', g1, ?_, g3⟩
        rw [hkp.block b (hr.lt hj g1) fun e => ?_]
        · exact g2
        · rcases e with e | e
          · exact q1 (hr.inj j k1 b hj h1 g1 (e ▸ e1))
          · exact q2 (hr.inj j k2 b hj h2 g1 (e ▸ e2))
/-! ### a page store's row -/
def StR (s : AS) (k kl kk kt kc : Nat) : Prop := ∃ v1 v2 v3 e fr, s.h.get k = some (.cells ⟨[.pointer (some ⟨kl, 0, none⟩), v1, v2, v3, .map (some kk), .map (some kt), .map (some kc), .bool false]⟩ e fr)
def stB (s : AS) (k kl kk kt kc : Nat) : Bool := match s.h.get k with
  | some (.cells ⟨[.pointer (some ⟨a, 0, none⟩), _, _, _, .map (some x), .map (some y), .map (some z), .bool false]⟩ _ _) => Nat.beq a kl && Nat.beq x kk && Nat.beq y kt && Nat.beq z kc
  | _ => false
theorem stB_ok {s : AS} {k kl kk kt kc : Nat} (h : stB s k kl kk kt kc = true) : StR s k kl kk kt kc := by
  unfold stB at h
  split at h
  · rename_i a v1 v2 v3 x y z e fr heq
    simp only [Bool.and_eq_true] at h
    obtain ⟨⟨⟨h1, h2⟩, h3⟩, h4⟩ := h
    rw [Nat.eq_of_beq_eq_true h1, Nat.eq_of_beq_eq_true h2, Nat.eq_of_beq_eq_true h3, Nat.eq_of_beq_eq_true h4] at heq
    exact ⟨v1, v2, v3, e, fr, heq⟩
  · cases h
/-- what is in the world's row -/
structure StW (w : World) (b bl bk bt bc : Nat) : Prop where
  lt : b < w.heap.size
  c0 : w.cell? ⟨b, 0, none⟩ = some (.pointer (some ⟨bl, 0, none⟩))
  c4 : w.cell? ⟨b, 4, none⟩ = some (.map (some bk))
  c5 : w.cell? ⟨b, 5, none⟩ = some (.map (some bt))
  c6 : w.cell? ⟨b, 6, none⟩ = some (.map (some bc))
  c7 : w.cell? ⟨b, 7, none⟩ = some (.bool false)
theorem StW.kp {F : Nat → Prop} {w w' : World} {b bl bk bt bc : Nat} (h : StW w b bl bk bt bc) (hk : Kp F w w') (hn : ¬ F b) : StW w' b bl bk bt bc :=
  ⟨Nat.lt_of_lt_of_le h.lt hk.size, (hk.cell (p := ⟨b, 0, none⟩) h.lt hn).trans h.c0, (hk.cell (p := ⟨b, 4, none⟩) h.lt hn).trans h.c4, (hk.cell (p := ⟨b, 5, none⟩) h.lt hn).trans h.c5, (hk.cell (p := ⟨b, 6, none⟩) h.lt hn).trans h.c6, (hk.cell (p := ⟨b, 7, none⟩) h.lt hn).trans h.c7⟩
theorem StR.world {P : Program} {G : Nat} {ι : Emb} {s : AS} {w : World} (hr : Rep P G ι s.mem w) {k kl kk kt kc : Nat} (h : StR s k kl kk kt kc) : ∃ b bl bk bt bc, ι.b k = some b ∧ ι.b kl = some bl ∧ ι.b kk = some bk ∧ ι.b kt = some bt ∧ ι.b kc = some bc ∧ StW w b bl bk bt bc := by
  obtain ⟨v1, v2, v3, e, fr, hk⟩ := h
  obtain ⟨b, cur, fb, hb, hw, _, hs, hv⟩ := hr.row hk
  have hget : ∀ (i : Nat) (v : Value), i < 8 → (⟨[.pointer (some ⟨kl, 0, none⟩), v1, v2, v3, .map (some kk), .map (some kt), .map (some kc), .bool false]⟩ : Array Value).toList[i]? = some v → ∃ u, w.cell? ⟨b, i, none⟩ = some u ∧ VR ι v u := fun i v hi hv1 => by
    have hsz : (⟨[.pointer (some ⟨kl, 0, none⟩), v1, v2, v3, .map (some kk), .map (some kt), .map (some kc), .bool false]⟩ : Array Value).size = 8 := rfl
    rw [hsz] at hs hv
    have hi2 : i < cur.size := by omega
    refine ⟨cur[i], ?_, hv.2 i v _ hv1 ?_⟩
    · unfold World.cell?
      simp only [hw]
      exact Array.getElem?_eq_getElem hi2
    · rw [List.getElem?_take_of_lt hi, Array.getElem?_toList]
      exact Array.getElem?_eq_getElem hi2
  obtain ⟨u0, g0, q0⟩ := hget 0 _ (by decide) rfl
  obtain ⟨u4, g4, q4⟩ := hget 4 _ (by decide) rfl
  obtain ⟨u5, g5, q5⟩ := hget 5 _ (by decide) rfl
  obtain ⟨u6, g6, q6⟩ := hget 6 _ (by decide) rfl
  obtain ⟨u7, g7, q7⟩ := hget 7 _ (by decide) rfl
  cases q0 with
  | ptr h0 =>
    cases q4 with
    | map h4 =>
      cases q5 with
      | map h5 =>
        cases q6 with
        | map h6 =>
          cases q7
          exact ⟨b, _, _, _, _, hb, h0, h4, h5, h6, hr.lt (by show s.h.get k ≠ none; rw [hk]; exact fun e => by cases e) hb, g0, g4, g5, g6, g7⟩
/-! ### while the kept pages are turned -/
def mixF (fc fk : Int → Option Value) (left : Lit → Bool) : Int → Option Value := fun x => match fc x with
  | some v => if left (.int .i64 x) then fk x else some v
  | none => fk x
theorem mixF_step {fc fk : Int → Option Value} {left : Lit → Bool} {x : Int} {v : Value} (h : fc x = some v) : mixF fc fk (fun z => left z && !z.sameKey (.int .i64 x)) = setF (mixF fc fk left) x v := by
  funext y
  unfold mixF setF
  by_cases e : y = x
  · subst e
    rw [h, if_pos rfl]
    simp [Lit.sameKey]
  · rw [if_neg e]
    have e2 : (Lit.int .i64 y).sameKey (.int .i64 x) = false := by simp [Lit.sameKey]; omega
    simp only [e2, Bool.not_false, Bool.and_true]
def trueF (fc : Int → Option Value) : Int → Option Value := fun x => (fc x).map fun _ => .bool true
theorem mixF_all {fc fk : Int → Option Value} {left : Lit → Bool} (h : ∀ x, (fc x).isSome = true → left (.int .i64 x) = true) : mixF fc fk left = fk := by
  funext x
  unfold mixF
  cases hc : fc x with
  | none => rfl
  | some v =>
    simp only
    rw [if_pos (h x (by rw [hc]; rfl))]
/-- while the maps are turned; w4: ahead of the range; r: the iterator's block -/
structure LoopI (P : Program) (tI : TypeId) (w4 wr : World) (bk bt bc r : Nat) (fc fk fd : Int → Option Value) (Dc : DataW Value) (nc tot : Nat) (left : Lit → Bool) (cnt : Nat) : Prop where
  kept : ∃ q D, q + cnt ≤ tot ∧ wr.ownsMap P tI RV bk q D ∧ MapF .i64 D (mixF fc fk left)
  dirty : ∃ q D, q + cnt ≤ tot ∧ wr.ownsMap P tI RV bt q D ∧ MapF .i64 D (mixF (trueF fc) fd left)
  rg : wr.ranges P tI RV bc r nc Dc left cnt
  lf : ∀ kl, left kl = true → Maps.has Dc kl = true
  kp : Kp (fun k => k = bk ∨ k = bt ∨ k = r) w4 wr
/-! ### lists of pairs that are put together -/
def dropP (ks : List Nat) (l : List Value) : List Value := l.filter fun p => match natKey p with
  | some n => !ks.any (Nat.beq n)
  | none => false
def trueP (p : Value) : Value := .tuple ⟨[keyP p, .bool true]⟩
theorem pairOf_inj {n m : Int} {v u : Value} (h : pairOf n v = pairOf m u) : n = m ∧ v = u := by
  unfold pairOf at h
  injection h with h
  have h1 := congrArg (fun a => a[0]?) h
  have h2 := congrArg (fun a => a[1]?) h
  exact ⟨by simpa using h1, by simpa using h2⟩
theorem natKey_pair {n : Nat} {v : Value} (h : n < 1000000) : natKey (pairOf n v) = some n := by
  show (match pairOf ((n : Nat) : Int) v with
    | .tuple ⟨[.int .i64 (.ofNat n), _]⟩ => if n < 1000000 then some n else none
    | _ => none) = some n
  exact if_pos h
theorem dropP_mem {ks : List Nat} {l : List Value} (hs : smallK l) {n : Int} {v : Value} : pairOf n v ∈ dropP ks l ↔ pairOf n v ∈ l ∧ ¬ ∃ k ∈ ks, n = ((k : Nat) : Int) := by
  unfold dropP
  rw [List.mem_filter]
  constructor
  · rintro ⟨h1, h2⟩
    refine ⟨h1, ?_⟩
    obtain ⟨n', v', e, hn⟩ := hs _ h1
    obtain ⟨rfl, rfl⟩ := pairOf_inj e
    rw [natKey_pair hn] at h2
    rintro ⟨k, hk, e2⟩
    have : n' = k := by exact_mod_cast e2
    subst this
    simp only [Bool.not_eq_true', List.any_eq_false] at h2
    exact h2 n' hk (Nat.beq_refl n')
  · rintro ⟨h1, h2⟩
    refine ⟨h1, ?_⟩
    obtain ⟨n', v', e, hn⟩ := hs _ h1
    obtain ⟨rfl, rfl⟩ := pairOf_inj e
    rw [natKey_pair hn]
    simp only [Bool.not_eq_true', List.any_eq_false]
    intro k hk hb
    exact h2 ⟨k, hk, by rw [Nat.eq_of_beq_eq_true hb]⟩
/-- the pages that are kept, behind -/
theorem merge_ok {ι : Emb} {lc lk : List Value} {nc nk : List Nat} {fc fk : Int → Option Value} (h1 : natKeys lc = some nc) (h2 : natKeys lk = some nk) (u1 : upB (isort nc) = true) (u2 : upB (isort nk) = true) (g1 : FL ι lc fc) (g2 : FL ι lk fk) :
    FL ι (dropP nc lk ++ lc) (mixF fc fk fun _ => false) ∧ (∀ p ∈ dropP nc lk ++ lc, ∃ n v, p = pairOf n v) ∧ ((dropP nc lk ++ lc).map keyP).Nodup := by
  obtain ⟨a1, a2, a3, _⟩ := natKeys_ok h1
  obtain ⟨b1, _, _, _⟩ := natKeys_ok h2
  have hfc : ∀ n : Int, fc n = none → ¬ ∃ k ∈ nc, n = ((k : Nat) : Int) := fun n hn => by
    rintro ⟨k, hk, rfl⟩
    obtain ⟨u, hu⟩ := a2 k hk
    obtain ⟨v', hv', _⟩ := g1.1 _ u hu
    rw [hn] at hv'
    cases hv'
  have hfc2 : ∀ (n : Int) v, fc n = some v → ∃ k ∈ nc, n = ((k : Nat) : Int) := fun n v hn => by
    obtain ⟨u, hu, _⟩ := g1.2 n v hn
    exact a3 n u hu
  refine ⟨⟨fun n v hp => ?_, fun n v' hv => ?_⟩, fun p hp => ?_, ?_⟩
  · unfold mixF
    rcases List.mem_append.1 hp with hp | hp
    · obtain ⟨p1, p2⟩ := (dropP_mem b1).1 hp
      cases hc : fc n with
      | some v => exact absurd (hfc2 n v hc) p2
      | none => exact g2.1 n v p1
    · obtain ⟨v', q1, q2⟩ := g1.1 n v hp
      rw [q1]
      exact ⟨v', rfl, q2⟩
  · unfold mixF at hv
    cases hc : fc n with
    | some v =>
      rw [hc] at hv
      cases hv
      obtain ⟨u, q1, q2⟩ := g1.2 n v' hc
      exact ⟨u, List.mem_append_right _ q1, q2⟩
    | none =>
      rw [hc] at hv
      obtain ⟨u, q1, q2⟩ := g2.2 n v' hv
      exact ⟨u, List.mem_append_left _ ((dropP_mem b1).2 ⟨q1, hfc n hc⟩), q2⟩
  · rcases List.mem_append.1 hp with hp | hp
    · obtain ⟨n, v, e, _⟩ := b1 p (List.mem_filter.1 hp).1
      exact ⟨n, v, e⟩
    · obtain ⟨n, v, e, _⟩ := a1 p hp
      exact ⟨n, v, e⟩
  · rw [List.map_append]
    refine List.nodup_append.2 ⟨List.Sublist.nodup (List.filter_sublist.map keyP) (keys_nodup h2 u2), keys_nodup h1 u1, fun a ha c hc e => ?_⟩
    subst e
    obtain ⟨p, hp, rfl⟩ := List.mem_map.1 ha
    obtain ⟨q, hq, e⟩ := List.mem_map.1 hc
    obtain ⟨n, v, rfl, _⟩ := b1 p (List.mem_filter.1 hp).1
    obtain ⟨n', v', rfl, _⟩ := a1 q hq
    have e2 : n = n' := by
      have : Value.int .i64 ((n' : Nat) : Int) = .int .i64 ((n : Nat) : Int) := e
      injection this with _ this
      exact (by exact_mod_cast this.symm)
    subst e2
    obtain ⟨k, hk, e3⟩ := a3 _ v' hq
    exact ((dropP_mem b1).1 hp).2 ⟨k, hk, e3⟩
theorem trueP_pair (n : Int) (v : Value) : trueP (pairOf n v) = pairOf n (.bool true) := rfl
theorem true_FL {ι : Emb} {lc : List Value} {nc : List Nat} {fc : Int → Option Value} (h1 : natKeys lc = some nc) (g1 : FL ι lc fc) : FL ι (lc.map trueP) (trueF fc) := by
  obtain ⟨a1, _, _, _⟩ := natKeys_ok h1
  refine ⟨fun n v hp => ?_, fun n v' hv => ?_⟩
  · obtain ⟨p, hp2, e⟩ := List.mem_map.1 hp
    obtain ⟨m, u, rfl, _⟩ := a1 p hp2
    rw [trueP_pair] at e
    obtain ⟨rfl, rfl⟩ := pairOf_inj e
    obtain ⟨w, q1, _⟩ := g1.1 _ u hp2
    exact ⟨.bool true, by unfold trueF; rw [q1]; rfl, .bool true⟩
  · unfold trueF at hv
    cases hc : fc n with
    | none => rw [hc] at hv; cases hv
    | some w =>
      rw [hc] at hv
      cases hv
      obtain ⟨u, q1, _⟩ := g1.2 n w hc
      exact ⟨.bool true, List.mem_map.2 ⟨_, q1, trueP_pair n u⟩, .bool true⟩
theorem true_keys : ∀ {l : List Value} {r : List Nat}, natKeys l = some r → natKeys (l.map trueP) = some r
  | [], r, h => h
  | v :: l, r, h => by
    unfold natKeys at h
    split at h
    · rename_i n r0 h1 h2
      cases h
      obtain ⟨⟨u, rfl⟩, hn⟩ := natKey_ok h1
      rw [List.map_cons]
      unfold natKeys
      rw [trueP_pair, natKey_pair hn, true_keys h2]
    · cases h
/-! ### the commit, as the run does it -/
structure CF where
  text : FuncId
  need : FuncId
  sectors : FuncId
  left : FuncId
  commit : FuncId
  says : FuncId
  abort : FuncId
def mergeM (s : AS) (kk kt kc : Nat) : Option AS := match umapOf s kk, umapOf s kt, umapOf s kc with
  | some (e1, lk, z1, a1, b1), some (e2, lt, z2, a2, b2), some (_, lc, _, _, _) => match natKeys lk, natKeys lt, natKeys lc with
    | some nk, some nt, some nc => if upB (isort nk) = true ∧ upB (isort nt) = true ∧ upB (isort nc) = true ∧ nk.length ≤ 10000 ∧ nt.length ≤ 10000 ∧ nc.length ≤ 10000 ∧ kk ≠ kt ∧ kk ≠ kc ∧ kt ≠ kc ∧ kk < 100000000 ∧ kt < 100000000 then
        some ⟨(s.h.put 100000000 kk (some (.chan e1 (dropP nc lk ++ lc).toArray true z1 a1 b1))).put 100000000 kt (some (.chan e2 (dropP nc lt ++ lc.map trueP).toArray true z2 a2 b2)), s.n⟩ else none
    | _, _, _ => none
  | _, _, _ => none
end
end Go.Proofs.YtdcioacjhpnihaaGreatDoor
namespace Go.Proofs.YtdcioacjhpnihaaGreatDoor
open Go Go.RowKit Go.Lib Go.ChangeMaps
noncomputable section

/-! ### bytes -/
def bv (xs : List Int) : List Value := xs.map (Value.int .u8)
def Byt (xs : List Int) : Prop := ∀ x ∈ xs, 0 ≤ x ∧ x < 256
theorem bv_len (xs : List Int) : (bv xs).length = xs.length := by simp [bv]
theorem bv_one (xs : List Int) : ∀ u ∈ bv xs, u.oneCell' = true := by
  intro u hu
  simp only [bv, List.mem_map] at hu
  obtain ⟨x, _, rfl⟩ := hu
  rfl
def pgV (xs : List Int) : Value := .agg (bv xs).toArray
def pageP (p : Value) : Bool := match p with
  | .tuple ⟨[_, .agg ⟨l⟩]⟩ => Nat.beq (llen l) 512 && l.all byteV
  | _ => false
theorem pageP_ok {ι : Emb} {n : Int} {v v' : Value} (h : pageP (pairOf n v) = true) (hv : VR ι v v') : ∃ xs, v' = pgV xs ∧ xs.length = 512 ∧ Byt xs := by
  unfold pairOf at h
  cases v with
  | agg c =>
    obtain ⟨l⟩ := c
    have h : (Nat.beq (llen l) 512 && l.all byteV) = true := h
    rw [Bool.and_eq_true] at h
    have h3 := Nat.eq_of_beq_eq_true h.1
    rw [llen_eq] at h3
    cases hv with
    | @agg _ c' hs hc =>
      have hl : VRl ι l c'.toList := VRl.of_s (c := ⟨l⟩) ⟨hs, hc⟩
      obtain ⟨bs, hbs⟩ := bytes_ok h.2 hl
      refine ⟨bs.map fun b => (b.toNat : Int), ?_, ?_, fun x hx => ?_⟩
      · unfold pgV bv
        rw [List.map_map]
        congr 1
        apply Array.ext'
        rw [hbs]
        rfl
      · have := hl.1
        rw [hbs, List.length_map] at this
        rw [List.length_map]
        omega
      · obtain ⟨b, _, rfl⟩ := List.mem_map.1 hx
        have := b.toNat_lt
        omega
  | _ => cases h
/-! ### the run -/
abbrev RUN := FuncId → List Value → AS → Option (Value × AS)
def pt (k : Nat) : Value := .pointer (some ⟨k, 0, none⟩)
def i64 (n : Nat) : Value := .int .i64 (.ofNat n)
/-- how many bytes a text has -/
def txtS : Value → Option Nat
  | .string b => some (llen b.data.toList)
  | .func (.method _) cs _ => some (llen cs.toList)
  | _ => none
theorem txtS_ok {ι : Emb} {T T' : Value} {Z : Nat} (h : txtS T = some Z) (hv : VR ι T T') : ∃ t : ByteArray, T' = .string t ∧ t.size = Z := by
  unfold txtS at h
  split at h
  · cases hv
    cases h
    exact ⟨_, rfl, by rw [llen_eq]; rfl⟩
  · obtain ⟨rfl, rfl, bs, rfl, hl⟩ := mixL_inv (c := #[]) hv
    cases h
    refine ⟨_, rfl, ?_⟩
    have := hl.1
    rw [List.length_map] at this
    rw [llen_eq, this]
    rfl
  · cases h
structure CommitRun (run : RUN) (F : CF) (k : Nat) (s s8 : AS) (kl kk kt kc : Nat) (T : Value) (Z : Nat) (n m m2 : Nat) (s1 s2 s3 s4 s5 s6 s7 : AS) : Prop where
  st0 : StR s k kl kk kt kc
  ne : ∃ e lc z a b, umapOf s kc = some (e, lc, z, a, b) ∧ lc ≠ [] ∧ lc.length ≤ 10000
  text : run F.text [pt k] s = some (T, s1)
  txt : txtS T = some Z
  st1 : StR s1 k kl kk kt kc
  need : run F.need [i64 Z] s1 = some (i64 n, s2)
  st2 : StR s2 k kl kk kt kc
  sectors : run F.sectors [pt kl] s2 = some (i64 m, s3)
  le : n ≤ m
  st3 : StR s3 k kl kk kt kc
  left : run F.left [pt kl] s3 = some (i64 m2, s4)
  le2 : n ≤ m2
  st4 : StR s4 k kl kk kt kc
  commit : run F.commit [pt kl, T] s4 = some (i64 0, s5)
  st5 : StR s5 k kl kk kt kc
  says : run F.says [pt k, i64 0] s5 = some (i64 0, s6)
  st6 : StR s6 k kl kk kt kc
  pages : ∀ e lc z a b, umapOf s6 kc = some (e, lc, z, a, b) → lc.all pageP = true
  merge : mergeM s6 kk kt kc = some s7
  abort : run F.abort [pt k] s7 = some (.tuple #[], s8)
  dif : k ≠ kk ∧ k ≠ kt ∧ k ≠ kc
def rowOf (s : AS) (k : Nat) : Option (Nat × Nat × Nat × Nat) := match s.h.get k with
  | some (.cells ⟨[.pointer (some ⟨a, 0, none⟩), _, _, _, .map (some x), .map (some y), .map (some z), .bool false]⟩ _ _) => some (a, x, y, z)
  | _ => none
theorem rowOf_ok {s : AS} {k a x y z : Nat} (h : rowOf s k = some (a, x, y, z)) : StR s k a x y z := by
  unfold rowOf at h
  split at h
  · rename_i a v1 v2 v3 x y z e fr heq
    cases h
    exact ⟨v1, v2, v3, e, fr, heq⟩
  · cases h
def someP {α : Type} (p : Bool) (o : Option α) : Option α := if p then o else none
theorem someP_ok {α : Type} {p : Bool} {o : Option α} {x : α} (h : someP p o = some x) : p = true ∧ o = some x := by
  unfold someP at h
  split at h
  · rename_i hp
    exact ⟨hp, h⟩
  · cases h
def xCommit (run : RUN) (F : CF) (args : List Value) (s : AS) : Option (Value × AS) := match args with
  | [.pointer (some ⟨k, 0, none⟩)] => match rowOf s k with
    | some (kl, kk, kt, kc) => match umapOf s kc with
      | some (_, lc, _, _, _) => someP (!lc.isEmpty && Nat.ble lc.length 10000 && !Nat.beq k kk && !Nat.beq k kt && !Nat.beq k kc) (match run F.text [pt k] s with
        | some (T, s1) => match txtS T with
         | some Z => match run F.need [i64 Z] s1 with
          | some (.int .i64 (.ofNat n), s2) => match run F.sectors [pt kl] s2 with
            | some (.int .i64 (.ofNat m), s3) => match run F.left [pt kl] s3 with
              | some (.int .i64 (.ofNat m2), s4) => someP (stB s1 k kl kk kt kc && stB s2 k kl kk kt kc && stB s3 k kl kk kt kc && stB s4 k kl kk kt kc && Nat.ble n m && Nat.ble n m2) (match run F.commit [pt kl, T] s4 with
                | some (.int .i64 (.ofNat 0), s5) => match run F.says [pt k, i64 0] s5 with
                  | some (.int .i64 (.ofNat 0), s6) => match umapOf s6 kc with
                    | some (_, lc6, _, _, _) => someP (stB s5 k kl kk kt kc && stB s6 k kl kk kt kc && lc6.all pageP) (match mergeM s6 kk kt kc with
                      | some s7 => match run F.abort [pt k] s7 with
                        | some (.tuple ⟨[]⟩, s8) => some (i64 0, s8)
                        | _ => none
                      | none => none)
                    | none => none
                  | _ => none
                | _ => none)
              | _ => none
            | _ => none
          | _ => none
         | none => none
        | none => none)
      | none => none
    | none => none
  | _ => none
theorem xCommit_ok {run : RUN} {F : CF} {args : List Value} {s s8 : AS} {v : Value} (h : xCommit run F args s = some (v, s8)) : v = i64 0 ∧ ∃ k kl kk kt kc T Z n m m2 s1 s2 s3 s4 s5 s6 s7, args = [pt k] ∧ CommitRun run F k s s8 kl kk kt kc T Z n m m2 s1 s2 s3 s4 s5 s6 s7 := by
  unfold xCommit at h
  split at h
  rotate_left
  · cases h
  rename_i k
  split at h
  rotate_left
  · cases h
  rename_i kl kk kt kc hrow
  split at h
  rotate_left
  · cases h
  rename_i e lc z a b hum
  obtain ⟨p1, h⟩ := someP_ok h
  split at h
  rotate_left
  · cases h
  rename_i T s1 htext
  split at h
  rotate_left
  · cases h
  rename_i Z hZ
  split at h
  rotate_left
  · cases h
  rename_i n s2 hneed
  split at h
  rotate_left
  · cases h
  rename_i m s3 hsec
  split at h
  rotate_left
  · cases h
  rename_i m2 s4 hleft
  obtain ⟨p2, h⟩ := someP_ok h
  split at h
  rotate_left
  · cases h
  rename_i s5 hcom
  split at h
  rotate_left
  · cases h
  rename_i s6 hsays
  split at h
  rotate_left
  · cases h
  rename_i e6 lc6 z6 a6 b6 hum6
  obtain ⟨p3, h⟩ := someP_ok h
  split at h
  rotate_left
  · cases h
  rename_i s7 hmer
  split at h
  rotate_left
  · cases h
  rename_i s8' hab
  cases h
  simp only [Bool.and_eq_true, Bool.not_eq_true'] at p1 p2 p3
  obtain ⟨⟨⟨⟨a1, a2⟩, a3⟩, a4⟩, a5⟩ := p1
  obtain ⟨⟨⟨⟨⟨b1, b2⟩, b3⟩, b4⟩, b5⟩, b6'⟩ := p2
  obtain ⟨⟨c1, c2⟩, c3⟩ := p3
  have hne : ∀ {x y : Nat}, Nat.beq x y = false → x ≠ y := fun h e => by
    subst e
    rw [Nat.beq_refl] at h
    cases h
  refine ⟨rfl, k, kl, kk, kt, kc, T, Z, n, m, m2, s1, s2, s3, s4, s5, s6, s7, rfl, ⟨rowOf_ok hrow, ⟨_, _, _, _, _, hum, ?_, Nat.le_of_ble_eq_true a2⟩, htext, hZ, stB_ok b1, hneed, stB_ok b2, hsec, Nat.le_of_ble_eq_true b5, stB_ok b3, hleft, Nat.le_of_ble_eq_true b6', stB_ok b4, hcom, stB_ok c1, hsays, stB_ok c2, ?_, hmer, hab, hne a3, hne a4, hne a5⟩⟩
  · intro e
    rw [e] at a1
    cases a1
  · intro e lc z a b hu
    rw [hum6] at hu
    cases hu
    exact c3
/-! ### ahead of the loop, and behind -/
/-- the maps of a page store, ahead of the loop -/
structure Maps3 (P : Program) (tI : TypeId) (w : World) (bk bt bc : Nat) (fk fd fc : Int → Option Value) (Dc : DataW Value) (nc : Nat) : Prop where
  kept : ∃ D, w.ownsMap P tI RV bk 10000 D ∧ MapF .i64 D fk
  dirty : ∃ D, w.ownsMap P tI RV bt 10000 D ∧ MapF .i64 D fd
  change : w.ownsMap P tI RV bc nc Dc
  changeF : MapF .i64 Dc fc
  size : Maps.size Dc = nc
  nc : nc ≤ 10000
  page : ∀ x v, fc x = some v → (0 ≤ x ∧ x < 1000000) ∧ ∃ xs, v = pgV xs ∧ xs.length = 512 ∧ Byt xs
  dif : bk ≠ bt ∧ bk ≠ bc ∧ bt ≠ bc
theorem mergeM_ok {P : Program} {G : Nat} {tI : TypeId} (hk : P.underlying tI = some (.int .i64)) {ι : Emb} {s s7 : AS} {w : World} {kk kt kc bk bt bc : Nat} (hr : Rep P G ι s.mem w) (h : mergeM s kk kt kc = some s7) (hp : ∀ e lc z a b, umapOf s kc = some (e, lc, z, a, b) → lc.all pageP = true)
    (hbk : ι.b kk = some bk) (hbt : ι.b kt = some bt) (hbc : ι.b kc = some bc) :
    ∃ fk fd fc Dc nc, (s.mem.get kk ≠ none ∧ s.mem.get kt ≠ none ∧ s.mem.get kc ≠ none) ∧ Maps3 P tI w bk bt bc fk fd fc Dc nc ∧ ∀ wr, Kp (fun k => k = bk ∨ k = bt) w wr → (∃ q D, wr.ownsMap P tI RV bk q D ∧ MapF .i64 D (mixF fc fk fun _ => false)) → (∃ q D, wr.ownsMap P tI RV bt q D ∧ MapF .i64 D (mixF (trueF fc) fd fun _ => false)) → Tr P G ι s.mem w ι s7.mem wr := by
  unfold mergeM at h
  split at h
  rotate_left
  · cases h
  rename_i e1 lk z1 a1 b1 e2 lt z2 a2 b2 e3 lc z3 a3 b3 h1 h2 h3
  split at h
  rotate_left
  · cases h
  rename_i nk nt nc k1 k2 k3
  split at h
  rotate_left
  · cases h
  rename_i hq
  cases h
  obtain ⟨u1, u2, u3, l1, l2, l3, d1, d2, d3, x1, x2⟩ := hq
  obtain ⟨n1, q1, es1, c1, hb1, hw1, hu1⟩ := umapOf_rep hr h1
  obtain ⟨n2, q2, es2, c2, hb2, hw2, hu2⟩ := umapOf_rep hr h2
  obtain ⟨n3', q3, es3, c3, hb3, hw3, hu3⟩ := umapOf_rep hr h3
  have hpg := hp _ _ _ _ _ h3
  rw [hbk] at hb1; cases hb1
  rw [hbt] at hb2; cases hb2
  rw [hbc] at hb3; cases hb3
  obtain ⟨i1, _, _, j1⟩ := natKeys_ok k1
  obtain ⟨i2, _, _, j2⟩ := natKeys_ok k2
  obtain ⟨i3, m3, n3, j3⟩ := natKeys_ok k3
  obtain ⟨Dk, fk, ok1, ok2, ok3⟩ := umap_own hk hw1 hu1 i1 (by omega)
  obtain ⟨Dt, fd, ot1, ot2, ot3⟩ := umap_own hk hw2 hu2 i2 (by omega)
  obtain ⟨Dc, fc, oc1, oc2, oc3⟩ := umap_own hk hw3 hu3 i3 (by omega)
  have hmem : ∀ x : Int, (fc x).isSome = true ↔ ∃ i ∈ isort nc, x = ((i : Nat) : Int) := fun x => by
    constructor
    · intro hx
      obtain ⟨v', hv'⟩ := Option.isSome_iff_exists.1 hx
      obtain ⟨u, hu, _⟩ := oc3.2 x v' hv'
      obtain ⟨i, hi, e⟩ := n3 x u hu
      exact ⟨i, isort_mem.2 hi, e⟩
    · rintro ⟨i, hi, rfl⟩
      obtain ⟨u, hu⟩ := m3 i (isort_mem.1 hi)
      obtain ⟨v', hv', _⟩ := oc3.1 _ u hu
      rw [hv']
      rfl
  have hsize := oc2.size hk oc1 (upB_ok u3) hmem
  rw [isort_len] at hsize
  obtain ⟨t1, t2, t3⟩ := merge_ok k3 k1 u3 u1 oc3 ok3
  obtain ⟨r1, r2, r3⟩ := merge_ok (true_keys k3) k2 u3 u2 (true_FL k3 oc3) ot3
  refine ⟨fk, fd, fc, Dc, lc.length, ⟨n1, n2, n3'⟩, ⟨⟨Dk, ok1.mono (by omega), ok2⟩, ⟨Dt, ot1.mono (by omega), ot2⟩, oc1, oc2, by omega, by omega, fun x v hv => ?_, fun e => d1 (hr.inj kk kt bk n1 n2 hbk (e ▸ hbt)), fun e => d2 (hr.inj kk kc bk n1 n3' hbk (e ▸ hbc)), fun e => d3 (hr.inj kt kc bt n2 n3' hbt (e ▸ hbc))⟩, fun wr hkp hK hD => ?_⟩
  · obtain ⟨u, hu, hvr⟩ := oc3.2 x v hv
    obtain ⟨n', v', e, hn⟩ := i3 _ hu
    obtain ⟨rfl, rfl⟩ := pairOf_inj e
    obtain ⟨xs, e, hl, hb⟩ := pageP_ok (List.all_eq_true.1 hpg _ hu) hvr
    exact ⟨by omega, xs, e, hl, hb⟩
  · obtain ⟨q, D, p1, p2⟩ := hK
    obtain ⟨q', D', p3, p4⟩ := hD
    obtain ⟨o1, y1, y2⟩ := own_umap hk p1 p2 t1 t2 t3
    obtain ⟨o2, y3, y4⟩ := own_umap hk p3 p4 r1 r2 r3
    refine Tr.merged (o1 := .chan e1 (dropP nc lk ++ lc).toArray true z1 a1 b1) (o2 := .chan e2 (dropP nc lt ++ lc.map trueP).toArray true z2 a2 b2) hr n1 n2 hbk hbt hkp y1 y3 y2 y4 (fun j => ?_) rfl
    show ((s.h.put 100000000 kk _).put 100000000 kt _).get j = _
    rw [T.get_put _ _ _ _ _ x2, T.get_put _ _ _ _ _ x1]
    by_cases e1 : j = kt
    · subst e1
      rw [if_pos rfl, if_neg (fun e => d1 e.symm), if_pos rfl]
    · rw [if_neg e1, if_neg e1]
      rfl
end
end Go.Proofs.YtdcioacjhpnihaaGreatDoor
namespace Go.Proofs.YtdcioacjhpnihaaGreatDoor
open Go Go.RowKit Go.Maps Go.MapKept Go.ChangeMaps Go.WideElems

section
variable {H : Type} {P : Program} {w : World} {t k e : TypeId} {R : Value → Option (DataW H × List MemPlace)} {b n : Nat} {D : DataW H}
/-- a map that lies in a block as in another world -/
theorem own_same {w2 : World} (h : w.ownsMap P k R b n D) (hb : w2.heap[b]? = w.heap[b]?) : w2.ownsMap P k R b n D := by
  obtain ⟨es, clock, h1, h2⟩ := h
  exact ⟨es, clock, hb.trans h1, h2⟩
/-- an entry is asked for, and written -/
theorem own_entry (h : w.ownsMap P k R b n D) (K : Keyed P k) (ht : P.underlying t = some (.map k e)) {z : Value} (hz : ∀ u : World, (zeroValue e).run P u = .ok z u) (hn : n < maxLen) {key : Value} {kl : Lit} (hkey : keyOf P k key = some kl) :
    ∃ (v0 : Value) (st : Nat) (es1 : Array MapEntry) (ck1 : Nat), (Instr.mapEntry t (.map (some b)) key).run P w = .ok (.tuple #[v0, .int .i64 (st : Int)]) (setBlock w b (.map es1 ck1)) ∧ (setBlock w b (.map es1 ck1)).heap[b]? = some (.map es1 ck1) ∧
      ∀ (w2 : World) (val : Value) (d : DataW H) (ps : List MemPlace), w2.heap[b]? = some (.map es1 ck1) → R val = some (d, ps) →
        ∃ o, (Instr.entryStore t (.map (some b)) (.int .i64 (st : Int)) val).run P w2 = .ok () (setBlock w2 b o) ∧ (setBlock w2 b o).ownsMap P k R b (n + 1) (D.put kl d) := by
  have hown := h
  obtain ⟨es, clock, hb, F, hs, rfl⟩ := h
  obtain ⟨s1, s2, _⟩ := F.stamped
  have fin : ∀ (w2 : World) (val : Value) (d : DataW H) (ps : List MemPlace) (es1 : Array MapEntry) (ck1 : Nat) (o : Obj), w2.heap[b]? = some (.map es1 ck1) → R val = some (d, ps) → (Instr.mapUpdate t (.map (some b)) key val).run P w = .ok () (setBlock w b o) →
      (setBlock w2 b o).ownsMap P k R b (n + 1) ((DataW.map ((es.toList.map (rg P k R)).foldr DataW.insert [])).put kl d) := by
    intro w2 val d ps es1 ck1 o hw2 hv hr
    obtain ⟨w', hr', ho, _⟩ := hown.store K ht hn hkey hv
    rw [hr] at hr'
    injection hr' with _ hr'
    subst hr'
    exact own_same ho (by rw [heap_setBlock_same hw2, heap_setBlock_same hb])
  rcases K.find w hkey es.toList F.keys with ⟨h1, h2⟩ | ⟨j, e0, h1, h2, h3⟩
  · refine ⟨z, clock, es.push ⟨key, z, clock⟩, clock + 1, ?_, heap_setBlock_same hb _, fun w2 val d ps hw2 hv => ⟨.map (es.push ⟨key, val, clock⟩) (clock + 1), ?_, fin w2 val d ps _ _ _ hw2 hv ?_⟩⟩
    · simp [Instr.mapEntry, run_underlying ht, Go.MapKept.run_getObj_map hb, K.check w false hkey, h1, hz, Go.MapKept.run_setObj_map _ hb, Result.andThen, setBlock, goInt]
    · have hidx : (es.push ⟨key, z, clock⟩).findIdx? (fun e => ((e.born : Nat) : Int) == ((clock : Nat) : Int)) = some es.size := by
        rw [findIdx_arr]
        refine findIdx_born (l := (es.push ⟨key, z, clock⟩).toList) (j := es.size) (e0 := ⟨key, z, clock⟩) ?_ (by simp)
        simp only [Array.toList_push, List.map_append, List.map_cons, List.map_nil]
        refine List.nodup_append.2 ⟨s2, by simp, fun a ha c hc e1 => ?_⟩
        simp only [List.mem_singleton] at hc
        obtain ⟨x, hx, rfl⟩ := List.mem_map.1 ha
        have := s1 x hx
        omega
      have hmod : (es.push ⟨key, z, clock⟩).modify es.size (fun e => { e with val := val }) = es.push ⟨key, val, clock⟩ := by
        apply Array.ext'
        rw [Array.toList_modify, Array.toList_push, Array.toList_push, ← Array.length_toList, modify_last]
      simp [Instr.entryStore, Go.MapKept.run_getObj_map hw2, asInt, asIntOf, hidx, hmod, Go.MapKept.run_setObj_map _ hw2, Result.andThen, setBlock]
    · simp [Instr.mapUpdate, run_underlying ht, Go.MapKept.run_getObj_map hb, K.check w false hkey, h1, Go.MapKept.run_setObj_map _ hb, Result.andThen, setBlock]
  · have hj : es[j]? = some e0 := by simpa using h2
    have hsame : es.modify j (fun e => { e with key := key }) = es := by
      apply Array.ext'
      rw [Array.toList_modify, modify_eq_set _ _ _ _ h2]
      have : ({ e0 with key := key } : MapEntry) = e0 := by rw [← h3]
      rw [this]
      exact set_self _ _ _ h2
    refine ⟨e0.val, e0.born, es, clock, ?_, heap_setBlock_same hb _, fun w2 val d ps hw2 hv => ⟨.map (es.modify j (fun e' => { e' with key := key, val := val })) clock, ?_, fin w2 val d ps _ _ _ hw2 hv ?_⟩⟩
    · simp [Instr.mapEntry, run_underlying ht, Go.MapKept.run_getObj_map hb, K.check w false hkey, h1, hj, h3, K.stays w hkey, hsame, Go.MapKept.run_setObj_map _ hb, Result.andThen, setBlock, goInt]
    · have hidx : es.findIdx? (fun e => ((e.born : Nat) : Int) == ((e0.born : Nat) : Int)) = some j := by
        rw [findIdx_arr]
        exact findIdx_born s2 h2
      have hmod : es.modify j (fun e => { e with val := val }) = es.modify j (fun e' => { e' with key := key, val := val }) := by
        apply Array.ext'
        rw [Array.toList_modify, Array.toList_modify, modify_eq_set _ _ _ _ h2, modify_eq_set _ _ _ _ h2, ← h3]
      simp [Instr.entryStore, Go.MapKept.run_getObj_map hw2, asInt, asIntOf, hidx, hmod, Go.MapKept.run_setObj_map _ hw2, Result.andThen, setBlock]
    · simp [Instr.mapUpdate, run_underlying ht, Go.MapKept.run_getObj_map hb, K.check w false hkey, h1, hj, h3, K.stays w hkey, Go.MapKept.run_setObj_map _ hb, Result.andThen, setBlock]
end
def OnlyF (b : Nat) : Nat → Prop := fun k => k = b
def TwoF (a b : Nat) : Nat → Prop := fun k => k = a ∨ k = b
theorem kp_setB {w : World} (b : Nat) (o : Obj) : Kp (OnlyF b) w (setBlock w b o) :=
  ⟨rfl, rfl, rfl, by simp [setBlock], fun i _ hn => by
    have hn' : b ≠ i := fun e => hn e.symm
    simp [setBlock, hn']⟩
theorem ranges_same {H : Type} {P : Program} {w w' : World} {k : TypeId} {R : Value → Option (DataW H × List MemPlace)} {b r n : Nat} {D : DataW H} {left : Lit → Bool} {cnt : Nat} (h : w.ranges P k R b r n D left cnt) (hb : w'.heap[b]? = w.heap[b]?) (hr : w'.heap[r]? = w.heap[r]?) : w'.ranges P k R b r n D left cnt := by
  obtain ⟨es, clock, since, seen, c0, h1, F, hs, hD, h2, rest⟩ := h
  exact ⟨es, clock, since, seen, c0, hb.trans h1, F, hs, hD, hr.trans h2, rest⟩
def Whole (w : World) (b : Nat) (t : TypeId) (cs : List Value) : Prop := w.heap[b]? = some (.cells cs.toArray t (0, 0))
section
variable {w w' : World} {b : Nat} {t : TypeId} {cs : List Value}
theorem Whole.lt (h : Whole w b t cs) : b < w.heap.size := (Array.getElem?_eq_some_iff.1 h).1
theorem Whole.cell (h : Whole w b t cs) (i : Nat) : w.cell? ⟨b, i, none⟩ = cs[i]? := by
  unfold Whole at h
  simp [World.cell?, h]
theorem Whole.kp {F : Nat → Prop} (h : Whole w b t cs) (hb : Kp F w w') (hn : ¬ F b) : Whole w' b t cs := (hb.block b h.lt hn).trans h
theorem Whole.new (w : World) (cs : List Value) (t : TypeId) : Whole (w.alloc (.cells cs.toArray t)) w.heap.size t cs := heap_alloc_new w _
theorem Whole.range (h : Whole w b t cs) : w.rangeAt b 0 cs := fun j v hv => by rw [Nat.zero_add, h.cell]; exact hv
end
/-- a load of a whole row, as a held region takes it first -/
theorem exec_load_mid {P : Program} {op : Oper} {a : Act} (w : World) (ty : TypeId) (x : Operand) (ho : op.op = .load ty x) (b o : Nat) (hx : a.eval x = .pointer (some ⟨b, o, none⟩)) (cs : List Value) (d : TypeDesc) (hS : w.rangeAt b o cs)
    (hu : P.underlying ty = some d) (hd : d.isRow = true) (hi : (P.info? ty).map (·.size) = some cs.length) : (execOp a.eval op).run P w = .ok (.value (.agg cs.toArray)) w := by
  unfold execOp
  simp only [ho, hx, Instr.loadAt, Instr.sureAddr, Sem.run_bind, Sem.run_pure, Result.andThen_ok, run_loadVar_mid w b o ty cs d hS hu hd hi]
end Go.Proofs.YtdcioacjhpnihaaGreatDoor
namespace Go.Proofs.YtdcioacjhpnihaaGreatDoor
open Go Go.RowKit Go.Maps Go.MapKept Go.ChangeMaps
/-! ### calls whose answer is flat -/
section
variable {P : Program} {C : Cfg} {f : FuncId} {s s' : AS} {v : Value} {ι : Emb} {w : World}
def AnsQ (P : Program) (C : Cfg) (ι : Emb) (s : AS) (w : World) (v : Value) (s' : AS) (e : Ending) (w' : World) : Prop := e = .returned v ∧ ∃ ι', Tr P C.G ι s.mem w ι' s'.mem w'
theorem ans_p {k b : Nat} (h : AnsOk P C f [pt k] s v s') (hf : flat v = true) (hr : Rep P C.G ι s.mem w) (hb : ι.b k = some b) : Calls P f #[.pointer (some ⟨b, 0, none⟩)] w (AnsQ P C ι s w v s') := by
  refine (h ι w [.pointer (some ⟨b, 0, none⟩)] hr ⟨rfl, fun i u u' h1 h2 => ?_⟩).mono ?_
  · cases i with
    | zero => cases h1; cases h2; exact .ptr hb
    | succ i => cases h1
  · rintro e w' ⟨ι', v', rfl, ht, hv⟩
    rw [VR.flatE hf hv]
    exact ⟨rfl, ι', ht⟩
theorem ans_pt {k b Z : Nat} (h : AnsOk P C f [pt k] s v s') (hZ : txtS v = some Z) (hr : Rep P C.G ι s.mem w) (hb : ι.b k = some b) : Calls P f #[.pointer (some ⟨b, 0, none⟩)] w fun e w' => ∃ t : ByteArray, e = .returned (.string t) ∧ t.size = Z ∧ ∃ ι', Tr P C.G ι s.mem w ι' s'.mem w' ∧ VR ι' v (.string t) := by
  refine (h ι w [.pointer (some ⟨b, 0, none⟩)] hr ⟨rfl, fun i u u' h1 h2 => ?_⟩).mono ?_
  · cases i with
    | zero => cases h1; cases h2; exact .ptr hb
    | succ i => cases h1
  · rintro e w' ⟨ι', v', rfl, ht, hv⟩
    obtain ⟨t, rfl, hs⟩ := txtS_ok hZ hv
    exact ⟨t, rfl, hs, ι', ht, hv⟩
theorem ans_pv {k b : Nat} {u u' : Value} (h : AnsOk P C f [pt k, u] s v s') (hu : VR ι u u') (hf : flat v = true) (hr : Rep P C.G ι s.mem w) (hb : ι.b k = some b) : Calls P f #[.pointer (some ⟨b, 0, none⟩), u'] w (AnsQ P C ι s w v s') := by
  refine (h ι w [.pointer (some ⟨b, 0, none⟩), u'] hr ⟨rfl, fun i x x' h1 h2 => ?_⟩).mono ?_
  · cases i with
    | zero => cases h1; cases h2; exact .ptr hb
    | succ i =>
      cases i with
      | zero => cases h1; cases h2; exact hu
      | succ i => cases h1
  · rintro e w' ⟨ι', v', rfl, ht, hv⟩
    rw [VR.flatE hf hv]
    exact ⟨rfl, ι', ht⟩
theorem ans_i {u : Value} (h : AnsOk P C f [u] s v s') (hu : flat u = true) (hf : flat v = true) (hr : Rep P C.G ι s.mem w) : Calls P f #[u] w (AnsQ P C ι s w v s') := by
  refine (h ι w [u] hr ⟨rfl, fun i x x' h1 h2 => ?_⟩).mono ?_
  · rw [h1] at h2
    cases h2
    cases i with
    | zero => cases h1; exact VR.flat ι hu
    | succ i => cases h1
  · rintro e w' ⟨ι', v', rfl, ht, hv⟩
    rw [VR.flatE hf hv]
    exact ⟨rfl, ι', ht⟩
theorem ans_pu {k b : Nat} {u : Value} (h : AnsOk P C f [pt k, u] s v s') (hu : flat u = true) (hf : flat v = true) (hr : Rep P C.G ι s.mem w) (hb : ι.b k = some b) : Calls P f #[.pointer (some ⟨b, 0, none⟩), u] w (AnsQ P C ι s w v s') := by
  refine (h ι w [.pointer (some ⟨b, 0, none⟩), u] hr ⟨rfl, fun i x x' h1 h2 => ?_⟩).mono ?_
  · cases i with
    | zero => cases h1; cases h2; exact .ptr hb
    | succ i =>
      cases i with
      | zero => cases h1; cases h2; exact VR.flat ι hu
      | succ i => cases h1
  · rintro e w' ⟨ι', v', rfl, ht, hv⟩
    rw [VR.flatE hf hv]
    exact ⟨rfl, ι', ht⟩
/-- the numbers that a page store's blocks have in the world -/
structure StN (ι : Emb) (k kl kk kt kc b bl bk bt bc : Nat) : Prop where
  k : ι.b k = some b
  kl : ι.b kl = some bl
  kk : ι.b kk = some bk
  kt : ι.b kt = some bt
  kc : ι.b kc = some bc
theorem StN.le {ι' : Emb} {k kl kk kt kc b bl bk bt bc : Nat} (h : StN ι k kl kk kt kc b bl bk bt bc) (hl : ι.le ι') : StN ι' k kl kk kt kc b bl bk bt bc := ⟨(hl _ _ h.k).1, (hl _ _ h.kl).1, (hl _ _ h.kk).1, (hl _ _ h.kt).1, (hl _ _ h.kc).1⟩
theorem StR.at {G k kl kk kt kc b bl bk bt bc : Nat} (hr : Rep P G ι s.mem w) (h : StR s k kl kk kt kc) (hn : StN ι k kl kk kt kc b bl bk bt bc) : StW w b bl bk bt bc := by
  obtain ⟨b', bl', bk', bt', bc', h1, h2, h3, h4, h5, h6⟩ := h.world hr
  obtain ⟨g1, g2, g3, g4, g5⟩ := hn
  rw [g1] at h1; rw [g2] at h2; rw [g3] at h3; rw [g4] at h4; rw [g5] at h5
  cases h1; cases h2; cases h3; cases h4; cases h5
  exact h6
end
theorem entry_of {P : Program} {tI : TypeId} (hu : P.underlying tI = some (.int .i64)) {Dc : DataW Value} {fc : Int → Option Value} (hF : MapF .i64 Dc fc) {x : Int} {c : Value} {kl : Lit} {y : DataW Value} {z : List MemPlace} (hkey : keyOf P tI (.int .i64 x) = some kl) (hl : Maps.has Dc kl = true) (hv : RV c = some (y, z)) (hat : ∀ zd, Dc.atKey kl zd = y) : kl = .int .i64 x ∧ fc x = some c := by
  obtain ⟨x', e1, e2, _⟩ := Maps.keyOf_int_inv hu hkey
  injection e1 with _ e1
  subst e1 e2
  rw [hF.has] at hl
  obtain ⟨v, hv2⟩ := Option.isSome_iff_exists.1 hl
  have h1 := (hF.val x v (.lit (.bool true)) hv2).symm.trans (hat _)
  unfold RV at hv
  injection hv with hv
  injection hv with hv _
  rw [← hv] at h1
  injection h1 with h1
  exact ⟨rfl, by rw [hv2, h1]⟩
theorem len_map {P : Program} {w : World} {t k e ty b : Nat} {es : Array MapEntry} {c : Nat} (hb : w.heap[b]? = some (.map es c)) (ht : P.underlying t = some (.map k e)) : (Builtin.len_ #[t] ty #[.map (some b)]).run P w = .ok (.int .i64 (es.size : Int)) w := by
  simp [Builtin.len_, Builtin.lenOf, run_underlying ht, Go.MapKept.run_getObj_map hb, Result.andThen, goInt]
end Go.Proofs.YtdcioacjhpnihaaGreatDoor
