/- What the statement PruneAgain counts, in plain words: the names kept once, the sum of a policy's numbers, the newest name. -/
import Derived.Test.YtbajnkkekibdmaaDoorW17
import Derived.Test.YtbajnkkekibdmaaDoorPlain2
namespace Go.Proofs.YtbajnkkekibdmaaDoor
open Go.RowKit Go.Shelf Go.Lib

theorem bss_pickN (ss : List ByteArray) (P : Pl.Bs → Bool) : bss (pickN ss ((bss ss).map P)) = (bss ss).filter P := by
  unfold pickN
  induction ss with
  | nil => rfl
  | cons s r ih =>
    simp only [bss, List.map_cons, List.zip_cons_cons, List.filter_cons] at ih ⊢
    cases h : P s.data.toList
    · simpa using ih
    · simpa using ih
theorem bss_kept {ss : List ByteArray} {p : Po} (h : Pl.err (bss ss) p.pol = 0) : bss (pickN ss (Pl.keep (bss ss) p.pol)) = Pl.keptN (bss ss) p.pol := by
  unfold Pl.keep
  rw [if_pos h]
  exact bss_pickN ss _
theorem pickN_sub (ss : List ByteArray) (l : List Bool) : ∀ s ∈ pickN ss l, s ∈ ss := by
  intro s hs
  unfold pickN at hs
  obtain ⟨⟨a, b⟩, h1, rfl⟩ := List.mem_map.1 hs
  exact (List.of_mem_zip (List.mem_filter.1 h1).1).1
theorem again_err {ss : List ByteArray} {p : Po} (h : Pl.err (bss ss) p.pol = 0) : Pl.err (bss (pickN ss (Pl.keep (bss ss) p.pol))) p.pol = 0 := by
  rw [bss_kept h]
  exact (Pl.again _ _ h).1
theorem again_len {ss : List ByteArray} {p : Po} (h : Pl.err (bss ss) p.pol = 0) :
    (pickN (pickN ss (Pl.keep (bss ss) p.pol)) (Pl.keep (bss (pickN ss (Pl.keep (bss ss) p.pol))) p.pol)).length = (pickN ss (Pl.keep (bss ss) p.pol)).length := by
  have h1 := bss_kept (again_err h)
  have h2 := (Pl.again _ _ h).2
  rw [← bss_len, h1, bss_kept h, h2, ← bss_kept h, bss_len]

/-- some number of the policy is not 0 -/
def someN (p : Po) (k : Nat) : Bool := decide (0 < p.last) || (p.rs.take k).any (fun r => decide (0 < r.2))
/-- the sum of the policy's numbers -/
def mostN (p : Po) (k : Nat) : Int := p.last + (p.ps.length : Int) + (Pl.sumC (p.rs.take k) : Int)
theorem someN_step (p : Po) (k : Nat) (h : k < p.rs.length) : someN p (k + 1) = (someN p k || decide (0 < p.rs[k].2)) := by
  unfold someN
  rw [List.take_succ_eq_append_getElem h, List.any_append, Bool.or_assoc]
  simp
theorem sumC_take (rs : List (Int × Int)) (k : Nat) (h : k < rs.length) : Pl.sumC (rs.take (k + 1)) = Pl.sumC (rs.take k) + rs[k].2.toNat := by
  unfold Pl.sumC
  rw [List.take_succ_eq_append_getElem h, List.map_append, List.sum_append]
  simp
theorem mostN_step (p : Po) (k : Nat) (h : k < p.rs.length) (h0 : 0 ≤ p.rs[k].2) : mostN p (k + 1) = mostN p k + p.rs[k].2 := by
  unfold mostN
  rw [sumC_take _ _ h]
  omega
theorem sumC_le (rs : List (Int × Int)) (h : ∀ r ∈ rs, r.2 ≤ 64) : Pl.sumC rs ≤ 64 * rs.length := by
  unfold Pl.sumC
  induction rs with
  | nil => simp
  | cons r rs ih =>
    have h1 := h r (by simp)
    have h2 := ih (fun r hr => h r (by simp [hr]))
    simp only [List.map_cons, List.sum_cons, List.length_cons]
    omega
theorem mostN_le (p : Po) (k : Nat) (h1 : p.last ≤ 64) (h2 : p.ps.length ≤ 32) (h3 : p.rs.length ≤ 8) (h4 : ∀ r ∈ p.rs, r.2 ≤ 64) : mostN p k ≤ 10000 := by
  have h5 := sumC_le (p.rs.take k) (fun r hr => h4 r (List.mem_of_mem_take hr))
  have h6 : (p.rs.take k).length ≤ 8 := Nat.le_trans (List.length_take_le' _ _) h3
  unfold mostN
  omega
theorem mostN_ge (p : Po) (k : Nat) (h1 : 0 ≤ p.last) : 0 ≤ mostN p k := by
  unfold mostN
  omega

/-- how many names of the first k have no stamp -/
def unstN (ss : List ByteArray) (k : Nat) : Nat := Pl.unst (bss (ss.take k))
theorem unstN_step (ss : List ByteArray) (k : Nat) (h : k < ss.length) : unstN ss (k + 1) = unstN ss k + (if Pl.has ss[k].data.toList = true then 0 else 1) := by
  unfold unstN Pl.unst
  rw [List.take_succ_eq_append_getElem h]
  simp only [bss, List.map_append, List.filter_append, List.length_append, List.map_cons, List.map_nil]
  cases h2 : Pl.has ss[k].data.toList <;> simp [h2]
theorem unstN_le (ss : List ByteArray) (k : Nat) : unstN ss k ≤ k := by
  unfold unstN Pl.unst
  refine Nat.le_trans (List.length_filter_le _ _) ?_
  rw [bss_len]
  exact List.length_take_le _ _

/-- the newest of the names that have a stamp -/
def nstep (o : Option ByteArray) (s : ByteArray) : Option ByteArray :=
  if Pl.has s.data.toList then (match o with | none => some s | some b => if Pl.newer s.data.toList b.data.toList then some s else some b) else o
def bestN (ss : List ByteArray) (k : Nat) : Option ByteArray := (ss.take k).foldl nstep none
theorem bestN_step (ss : List ByteArray) (k : Nat) (h : k < ss.length) : bestN ss (k + 1) = nstep (bestN ss k) ss[k] := by
  unfold bestN
  rw [List.take_succ_eq_append_getElem h, List.foldl_append]
  rfl
theorem nfold (l : List ByteArray) : ∀ o : Option ByteArray, (l.foldl nstep o).map (fun s => s.data.toList) = (bss l).foldl Pl.bstep (o.map fun s => s.data.toList) := by
  induction l with
  | nil => intro o; rfl
  | cons s r ih =>
    intro o
    rw [List.foldl_cons, ih]
    show _ = (bss r).foldl Pl.bstep (Pl.bstep (o.map fun s => s.data.toList) s.data.toList)
    congr 1
    unfold nstep Pl.bstep
    cases Pl.has s.data.toList
    · rfl
    · cases o with
      | none => rfl
      | some b =>
        simp only [if_true, Option.map_some]
        split <;> rfl
theorem bestN_eq (ss : List ByteArray) (k : Nat) (h : ss.length ≤ k) : (bestN ss k).map (fun s => s.data.toList) = Pl.best (bss ss) := by
  unfold bestN
  rw [nfold, List.take_of_length_le h]
  rfl
theorem data_inj {a b : ByteArray} (h : a.data.toList = b.data.toList) : a = b := by
  cases a; cases b
  simp only at h
  congr 1
  exact Array.toList_inj.1 h
theorem bestN_mem {ss : List ByteArray} {p : Po} (h : Pl.err (bss ss) p.pol = 0) (hsp : ∀ r ∈ p.rs, 0 ≤ r.1) {b : ByteArray} (hb : bestN ss ss.length = some b) (hs : someN p p.rs.length = true) :
    b ∈ pickN ss (Pl.keep (bss ss) p.pol) := by
  have h1 := bestN_eq ss ss.length (Nat.le_refl _)
  rw [hb] at h1
  have hm := ((Pl.err_iff _ _).1 h).1
  obtain ⟨_, _, _, h4, _⟩ := Pl.may_parts hm
  have h2 : b.data.toList ∈ Pl.keptN (bss ss) p.pol := by
    refine Pl.best_kept _ _ _ h1.symm ?_ (fun r hr => by have := h4 r hr; have := hsp r hr; omega)
    unfold someN at hs
    rw [List.take_length] at hs
    simp only [Bool.or_eq_true, decide_eq_true_eq, List.any_eq_true] at hs
    exact hs
  rw [← bss_kept h] at h2
  obtain ⟨c, hc, e⟩ := List.mem_map.1 h2
  rwa [data_inj e] at hc
theorem most_le {ss : List ByteArray} {p : Po} (h : Pl.err (bss ss) p.pol = 0) (hsp : ∀ r ∈ p.rs, 0 ≤ r.1) :
    ((pickN ss (Pl.keep (bss ss) p.pol)).length : Int) ≤ mostN p p.rs.length + (unstN ss ss.length : Int) := by
  have h1 := Pl.most _ _ h hsp
  rw [← bss_kept h, bss_len] at h1
  have h2 : p.pol.pins.length = p.ps.length := bss_len _
  have hm := ((Pl.err_iff _ _).1 h).1
  obtain ⟨h3, _⟩ := Pl.may_parts hm
  unfold mostN unstN
  rw [List.take_length, List.take_length]
  have h5 : Pl.sumC p.pol.rules = Pl.sumC p.rs := rfl
  have h6 : p.pol.last = p.last := rfl
  rw [h2, h5, h6] at h1
  rw [h6] at h3
  omega
/-- the slots of the newest name -/
def bV (o : Option ByteArray) : ByteArray := o.getD ByteArray.empty
def aV (o : Option ByteArray) : Nat := match o with | none => 0 | some b => Pl.st b.data.toList
/-- found among the first k -/
def fndN (l : List ByteArray) (b : ByteArray) (k : Nat) : Bool := (l.take k).any fun s => decide (s.data.toList = b.data.toList)
theorem fndN_step (l : List ByteArray) (b : ByteArray) (k : Nat) (h : k < l.length) : fndN l b (k + 1) = (fndN l b k || decide (l[k].data.toList = b.data.toList)) := by
  unfold fndN
  rw [List.take_succ_eq_append_getElem h, List.any_append]
  simp
theorem fndN_all {l : List ByteArray} {b : ByteArray} (h : b ∈ l) : fndN l b l.length = true := by
  unfold fndN
  rw [List.take_length, List.any_eq_true]
  exact ⟨b, h, by simp⟩
end Go.Proofs.YtbajnkkekibdmaaDoor
