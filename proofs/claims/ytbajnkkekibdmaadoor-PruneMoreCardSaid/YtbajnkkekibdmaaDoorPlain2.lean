/- The plain law, second part: what is kept once is kept again; a greater policy keeps more. Lists and numbers alone. -/
import Derived.Test.YtbajnkkekibdmaaDoorPlain
namespace Go.Proofs.YtbajnkkekibdmaaDoor.Pl
open Go

/-! ### a sorted list there is -/
theorem not_newer_trans {a b c : Bs} (h1 : newer b a = false) (h2 : newer c b = false) : newer c a = false := by
  cases h : newer c a
  · rfl
  · by_cases e : b = a
    · subst e; rw [h] at h2; exact h2
    · rcases newer_total e with h3 | h3
      · rw [h3] at h1; exact h1
      · rw [newer_trans h h3] at h2; exact h2

theorem at_inj {ns : List Bs} (hn : ns.Nodup) {i j : Nat} (hi : i < ns.length) (hj : j < ns.length) (h : at_ ns i = at_ ns j) : i = j := by
  rw [at_get hi, at_get hj] at h
  exact (List.getElem_inj hn).1 h

/-- ordered by 'not newer', of distinct names: ordered by 'newer' -/
theorem sorted_of {ns : List Bs} {l : List Nat} (hn : ns.Nodup) (hmem : ∀ i, i ∈ l ↔ i < ns.length ∧ has (at_ ns i) = true) (hnd : l.Nodup) (ho : l.Pairwise fun i j => newer (at_ ns j) (at_ ns i) = false) : Sorted ns l := by
  refine ⟨hmem, hnd, ?_⟩
  have h2 : l.Pairwise fun i j => i ≠ j := hnd
  have h3 : l.Pairwise fun i j => newer (at_ ns j) (at_ ns i) = false ∧ i ≠ j := List.Pairwise.and ho h2
  refine List.Pairwise.imp_of_mem ?_ h3
  intro i j hi hj ⟨a, b⟩
  have hi' := ((hmem i).1 hi).1
  have hj' := ((hmem j).1 hj).1
  rcases newer_total (fun e => b (at_inj hn hi' hj' e)) with h | h
  · exact h
  · rw [h] at a; cases a

theorem sorted_ex {ns : List Bs} (hn : ns.Nodup) : ∃ l, Sorted ns l := by
  let le : Nat → Nat → Bool := fun i j => !newer (at_ ns j) (at_ ns i)
  let l0 := (List.range ns.length).filter fun i => has (at_ ns i)
  have hp : (l0.mergeSort le).Perm l0 := List.mergeSort_perm l0 le
  refine ⟨l0.mergeSort le, sorted_of hn (fun i => ?_) (hp.nodup_iff.2 (List.nodup_range.filter _)) ?_⟩
  · rw [hp.mem_iff, List.mem_filter, List.mem_range]
  · have := List.pairwise_mergeSort (le := le) (fun a b c h1 h2 => by
      simp only [le, Bool.not_eq_true'] at h1 h2 ⊢
      exact not_newer_trans h1 h2) (fun a b => by
      simp only [le, Bool.or_eq_true, Bool.not_eq_true']
      cases h : newer (at_ ns b) (at_ ns a)
      · exact .inl rfl
      · exact .inr (newer_asymm h)) l0
    exact this.imp (fun {i j} h => by simpa [le] using h)

/-! ### fewer names: kept still -/
theorem filter_sub {α : Type} {P Q : α → Bool} {a b : List α} (hs : a.Sublist b) (h : ∀ x ∈ a, P x = true → Q x = true) : (a.filter P).length ≤ (b.filter Q).length := by
  refine Nat.le_trans ?_ (hs.filter Q).length_le
  induction a generalizing b with
  | nil => simp
  | cons x r ih =>
    have := ih (b := r) (List.Sublist.refl _) (fun y hy => h y (by simp [hy]))
    rw [List.filter_cons, List.filter_cons]
    cases hp : P x
    · simp only [Bool.false_eq_true, if_false]
      split
      · simp only [List.length_cons]; omega
      · exact this
    · rw [h x (by simp) hp]
      simp only [if_true, List.length_cons]
      omega

theorem ruleB_iff (ns : List Bs) (n : Bs) (r : Int × Int) : ruleB ns n r = true ↔ first ns r.1 n = true ∧ (later ns r.1 n : Int) < r.2 := by simp [ruleB]

theorem later_sub {a b : List Bs} (hs : a.Sublist b) (sp : Int) (n : Bs) : later a sp n ≤ later b sp n := by
  unfold later
  refine nodup_length (uniq_nodup _) fun y hy => ?_
  rw [mem_uniq] at hy ⊢
  exact (((hs.filter _).map _).subset) hy

theorem keepB_sub {a b : List Bs} (hs : a.Sublist b) (p : Pol) (n : Bs) (h : keepB b p n = true) : keepB a p n = true := by
  unfold keepB at h ⊢
  simp only [Bool.or_eq_true] at h ⊢
  rcases h with (h | h) | h
  · exact .inl (.inl h)
  · refine .inl (.inr ?_)
    unfold kept at h ⊢
    simp only [Bool.or_eq_true, decide_eq_true_eq, List.any_eq_true] at h ⊢
    rcases h with h | ⟨r, hr, h⟩
    · left
      have : ahead a n ≤ ahead b n := (hs.filter _).length_le
      omega
    · right
      refine ⟨r, hr, ?_⟩
      rw [ruleB_iff] at h ⊢
      refine ⟨?_, by have := later_sub hs r.1 n; omega⟩
      rw [first_iff] at h ⊢
      exact fun m hm => h.1 m (hs.subset hm)
  · exact .inr h

def keptN (ns : List Bs) (p : Pol) : List Bs := ns.filter (keepB ns p)

theorem err_iff (ns : List Bs) (p : Pol) : err ns p = 0 ↔ may p = true ∧ ns.length ≤ 256 ∧ ns.Nodup := by
  unfold err
  cases may p
  · simp
  · simp only [Bool.not_true, Bool.false_eq_true, if_false, true_and]
    split
    · simp; omega
    · split
      · simp_all
      · simp_all

/-- **What is kept once is kept again.** -/
theorem again (ns : List Bs) (p : Pol) (h : err ns p = 0) : err (keptN ns p) p = 0 ∧ keptN (keptN ns p) p = keptN ns p := by
  have hs : (keptN ns p).Sublist ns := List.filter_sublist
  rw [err_iff] at h ⊢
  refine ⟨⟨h.1, Nat.le_trans hs.length_le h.2.1, hs.nodup h.2.2⟩, ?_⟩
  unfold keptN
  rw [List.filter_eq_self]
  intro n hn
  exact keepB_sub hs p n (List.mem_filter.1 hn).2

/-! ### how many are kept -/
theorem count_set (o : List Bool) (i : Nat) : (o.set i true).count true ≤ o.count true + 1 := by
  by_cases h : i < o.length
  · rw [List.count_set h]
    simp
  · rw [List.set_eq_of_length_le (by omega)]; omega
theorem count_mark (is : List Nat) : ∀ o : List Bool, (mark o is).count true ≤ o.count true + is.length := by
  induction is with
  | nil => intro o; simp [mark]
  | cons i r ih =>
    intro o
    have h1 := ih (o.set i true)
    have h2 := count_set o i
    show (mark (o.set i true) r).count true ≤ _
    simp only [List.length_cons]
    omega
def sumC (rs : List (Int × Int)) : Nat := (rs.map fun r => r.2.toNat).sum
theorem count_marks (ns : List Bs) (l : List Nat) (rs : List (Int × Int)) : ∀ o : List Bool, (rs.foldl (fun o r => mark o ((perL ns r.1 [] l).take r.2.toNat)) o).count true ≤ o.count true + sumC rs := by
  induction rs with
  | nil => intro o; simp [sumC]
  | cons r rs ih =>
    intro o
    have h1 := ih (mark o ((perL ns r.1 [] l).take r.2.toNat))
    have h2 := count_mark ((perL ns r.1 [] l).take r.2.toNat) o
    have h3 : ((perL ns r.1 [] l).take r.2.toNat).length ≤ r.2.toNat := List.length_take_le _ _
    rw [List.foldl_cons]
    simp only [sumC, List.map_cons, List.sum_cons] at h1 ⊢
    omega
def unst (ns : List Bs) : Nat := (ns.filter fun n => !has n).length
theorem count_map {α : Type} (P : α → Bool) (l : List α) : (l.map P).count true = (l.filter P).length := by
  induction l with
  | nil => rfl
  | cons x r ih =>
    rw [List.map_cons, List.filter_cons]
    cases h : P x
    · simp [ih]
    · simp [ih]
theorem filter_or {α : Type} (P Q : α → Bool) (l : List α) : (l.filter fun x => P x || Q x).length ≤ (l.filter P).length + (l.filter Q).length := by
  induction l with
  | nil => simp
  | cons x r ih =>
    simp only [List.filter_cons]
    cases P x <;> cases Q x <;> simp <;> omega
theorem count_base (ns : List Bs) (hn : ns.Nodup) (p : Pol) : (base ns p).count true ≤ unst ns + p.pins.length := by
  unfold base
  rw [count_map]
  have : (ns.filter fun n => p.pins.contains n).length ≤ p.pins.length := nodup_length (hn.filter _) fun y hy => by simpa using (List.mem_filter.1 hy).2
  exact Nat.le_trans (filter_or _ _ ns) (Nat.add_le_add_left this _)

theorem may_parts {p : Pol} (h : may p = true) : (0 ≤ p.last ∧ p.last ≤ 64) ∧ p.rules.length ≤ 8 ∧ p.pins.length ≤ 32 ∧ (∀ r ∈ p.rules, r.1 ≠ 0 ∧ 0 ≤ r.2 ∧ r.2 ≤ 64) ∧ ∀ s ∈ p.pins, name s = true := by
  unfold may at h
  simp only [Bool.and_eq_true, decide_eq_true_eq, List.all_eq_true] at h
  obtain ⟨⟨⟨⟨h1, h2⟩, h3⟩, h4⟩, h5⟩ := h
  unfold cnt at h1
  simp only [Bool.and_eq_true, decide_eq_true_eq] at h1
  refine ⟨h1, h2, h3, fun r hr => ?_, h5⟩
  have := h4 r hr
  simpa [badR, cnt] using this

theorem most (ns : List Bs) (p : Pol) (h : err ns p = 0) (hsp : ∀ r ∈ p.rules, 0 ≤ r.1) : (keptN ns p).length ≤ p.last.toNat + p.pins.length + sumC p.rules + unst ns := by
  rw [err_iff] at h
  obtain ⟨hm, _, hn⟩ := h
  obtain ⟨h1, _, _, h4, _⟩ := may_parts hm
  obtain ⟨l, hs⟩ := sorted_ex hn
  have he := hs.outF_eq p (fun r hr => ⟨by have := h4 r hr; have := hsp r hr; omega, (h4 r hr).2.1⟩) h1.1
  have hc : (keptN ns p).length = (outF ns p l).count true := by rw [he, count_map]; rfl
  rw [hc]
  unfold outF
  have e1 := count_mark (l.take p.last.toNat) (p.rules.foldl (fun o r => mark o ((perL ns r.1 [] l).take r.2.toNat)) (base ns p))
  have e2 := count_marks ns l p.rules (base ns p)
  have e3 := count_base ns hn p
  have e4 : (l.take p.last.toNat).length ≤ p.last.toNat := List.length_take_le _ _
  omega

/-! ### the newest one -/
def bstep (o : Option Bs) (n : Bs) : Option Bs := if has n then (match o with | none => some n | some b => if newer n b then some n else some b) else o
def best (ns : List Bs) : Option Bs := ns.foldl bstep none
theorem best_fold (ns : List Bs) : ∀ (o : Option Bs) (P : Bs → Prop), (∀ b, o = some b → P b) → (∀ n ∈ ns, has n = true → P n) →
    match ns.foldl bstep o with
    | none => o = none ∧ ∀ n ∈ ns, has n = false
    | some b => P b ∧ (∀ b', o = some b' → newer b' b = false) ∧ ∀ n ∈ ns, has n = true → newer n b = false := by
  induction ns with
  | nil =>
    intro o P h _
    cases o with
    | none => simp
    | some b => simp [h b rfl, newer_irrefl]
  | cons x r ih =>
    intro o P h1 h2
    rw [List.foldl_cons]
    cases hx : has x
    · have e : bstep o x = o := by simp [bstep, hx]
      rw [e]
      have := ih o P h1 (fun n hn => h2 n (by simp [hn]))
      revert this
      cases r.foldl bstep o with
      | none => exact fun ⟨a, b⟩ => ⟨a, fun n hn => by exact (List.mem_cons.1 hn).elim (fun e => by subst e; exact hx) (fun hn => b n hn)⟩
      | some b => exact fun ⟨a, b, c⟩ => ⟨a, b, fun n hn hh => by exact (List.mem_cons.1 hn).elim (fun e => by subst e; exact absurd hh (by simp [hx])) (fun hn => c n hn hh)⟩
    · cases o with
      | none =>
        have e : bstep none x = some x := by simp [bstep, hx]
        rw [e]
        have := ih (some x) P (fun b hb => by cases hb; exact h2 x (by simp) hx) (fun n hn => h2 n (by simp [hn]))
        revert this
        cases r.foldl bstep (some x) with
        | none => exact fun ⟨a, _⟩ => by cases a
        | some b => exact fun ⟨a, b, c⟩ => ⟨a, by simp, fun n hn hh => by exact (List.mem_cons.1 hn).elim (fun e => by subst e; exact b _ rfl) (fun hn => c n hn hh)⟩
      | some b0 =>
        cases hnw : newer x b0
        · have e : bstep (some b0) x = some b0 := by simp [bstep, hx, hnw]
          rw [e]
          have := ih (some b0) P h1 (fun n hn => h2 n (by simp [hn]))
          revert this
          cases r.foldl bstep (some b0) with
          | none => exact fun ⟨a, _⟩ => by cases a
          | some b => exact fun ⟨a, b, c⟩ => ⟨a, b, fun n hn hh => by exact (List.mem_cons.1 hn).elim (fun e => by subst e; exact not_newer_trans (b _ rfl) hnw) (fun hn => c n hn hh)⟩
        · have e : bstep (some b0) x = some x := by simp [bstep, hx, hnw]
          rw [e]
          have := ih (some x) P (fun b hb => by cases hb; exact h2 x (by simp) hx) (fun n hn => h2 n (by simp [hn]))
          revert this
          cases r.foldl bstep (some x) with
          | none => exact fun ⟨a, _⟩ => by cases a
          | some b => exact fun ⟨a, b, c⟩ => ⟨a, fun b' hb' => by cases hb'; exact not_newer_trans (b _ rfl) (newer_asymm hnw), fun n hn hh => by exact (List.mem_cons.1 hn).elim (fun e => by subst e; exact b _ rfl) (fun hn => c n hn hh)⟩

theorem best_kept (ns : List Bs) (p : Pol) (b : Bs) (hb : best ns = some b) (hsome : 0 < p.last ∨ ∃ r ∈ p.rules, 0 < r.2) (hsp : ∀ r ∈ p.rules, 0 < r.1) : b ∈ keptN ns p := by
  have h := best_fold ns none (fun b => b ∈ ns ∧ has b = true) (by simp) (fun n hn hh => ⟨hn, hh⟩)
  unfold best at hb
  rw [hb] at h
  obtain ⟨⟨h1, _⟩, _, h3⟩ := h
  refine List.mem_filter.2 ⟨h1, ?_⟩
  have ha : ahead ns b = 0 := by
    unfold ahead
    rw [List.length_eq_zero_iff, List.filter_eq_nil_iff]
    intro m hm
    cases hh : has m
    · simp
    · simp [h3 m hm hh]
  unfold keepB kept
  simp only [Bool.or_eq_true, decide_eq_true_eq, List.any_eq_true]
  left; right
  rcases hsome with hl | ⟨r, hr, hc⟩
  · left; omega
  · right
    refine ⟨r, hr, ?_⟩
    rw [ruleB_iff, first_iff]
    refine ⟨fun m hm hh _ => h3 m hm hh, ?_⟩
    have : later ns r.1 b = 0 := by
      unfold later
      have e : (ns.filter fun m => has m && decide (per r.1 b < per r.1 m)) = [] := by
        rw [List.filter_eq_nil_iff]
        intro m hm
        cases hh : has m
        · simp
        · simp only [Bool.true_and, decide_eq_true_eq]
          intro hlt
          have := newer_of_per (hsp r hr) hlt
          rw [h3 m hm hh] at this; cases this
      rw [e]; rfl
    omega

/-! ### a greater policy -/
theorem more (ns : List Bs) (p w : Pol) (h1 : p.last ≤ w.last) (h2 : ∀ r ∈ p.rules, ∃ c, r.2 ≤ c ∧ (r.1, c) ∈ w.rules) (h3 : ∀ s ∈ p.pins, s ∈ w.pins) (n : Bs) (h : keepB ns p n = true) : keepB ns w n = true := by
  unfold keepB at h ⊢
  simp only [Bool.or_eq_true] at h ⊢
  rcases h with (h | h) | h
  · exact .inl (.inl h)
  · refine .inl (.inr ?_)
    unfold kept at h ⊢
    simp only [Bool.or_eq_true, decide_eq_true_eq, List.any_eq_true] at h ⊢
    rcases h with h | ⟨r, hr, h⟩
    · left; omega
    · right
      obtain ⟨c, hc, hm⟩ := h2 r hr
      refine ⟨(r.1, c), hm, ?_⟩
      rw [ruleB_iff] at h ⊢
      exact ⟨h.1, by have := h.2; simp only; omega⟩
  · exact .inr (by simpa using h3 n (by simpa using h))
end Go.Proofs.YtbajnkkekibdmaaDoor.Pl
