/- The plain law behind the three statements on package prune (stamps, what a policy keeps): lists and numbers alone, no program. -/
import GoSem.Op.String
namespace Go.Proofs.YtbajnkkekibdmaaDoor.Pl
open Go

abbrev Bs := List UInt8

def dig (c : UInt8) : Bool := decide (48 ≤ c.toNat) && decide (c.toNat ≤ 57)
/-- the digits at a text's end -/
def digs (s : Bs) : Bs := (s.reverse.takeWhile dig).reverse
def num (l : Bs) : Nat := l.foldl (fun n c => 10 * n + (c.toNat - 48)) 0
def has (s : Bs) : Bool := decide (1 ≤ (digs s).length) && decide ((digs s).length ≤ 9)
/-- a text's stamp; 0 where it has none -/
def st (s : Bs) : Nat := if has s then num (digs s) else 0
def newer (a b : Bs) : Bool := decide (st b < st a) || (st a == st b && decide (b < a))

structure Pol where
  last : Int
  rules : List (Int × Int)
  pins : List Bs

def good (c : UInt8) : Bool := decide (33 ≤ c.toNat) && decide (c.toNat ≤ 126) && !(c.toNat == 47)
def name (s : Bs) : Bool := s.all good && decide (1 ≤ s.length) && decide (s.length ≤ 16)
def cnt (n : Int) : Bool := decide (0 ≤ n) && decide (n ≤ 64)
def badR (r : Int × Int) : Bool := r.1 == 0 || !cnt r.2
def may (p : Pol) : Bool := cnt p.last && decide (p.rules.length ≤ 8) && decide (p.pins.length ≤ 32) && p.rules.all (fun r => !badR r) && p.pins.all name

def per (sp : Int) (a : Bs) : Int := (st a : Int) / sp
def add (acc : List Int) (x : Int) : List Int := if x ∈ acc then acc else acc ++ [x]
def uniq (l : List Int) : List Int := l.foldl add []
def ahead (ns : List Bs) (n : Bs) : Nat := (ns.filter fun m => has m && newer m n).length
def first (ns : List Bs) (sp : Int) (n : Bs) : Bool := ns.all fun m => !(has m) || !(per sp m == per sp n) || !(newer m n)
def later (ns : List Bs) (sp : Int) (n : Bs) : Nat := (uniq ((ns.filter fun m => has m && decide (per sp n < per sp m)).map (per sp))).length
def ruleB (ns : List Bs) (n : Bs) (r : Int × Int) : Bool := first ns r.1 n && decide ((later ns r.1 n : Int) < r.2)
def kept (ns : List Bs) (p : Pol) (n : Bs) : Bool := decide ((ahead ns n : Int) < p.last) || p.rules.any (ruleB ns n)
def keepB (ns : List Bs) (p : Pol) (n : Bs) : Bool := !(has n) || kept ns p n || p.pins.contains n

/-- Keep's error: 0 OK, 2 ErrArg, 6 ErrLimit, 9 ErrExist. -/
def err (ns : List Bs) (p : Pol) : Int := if !may p then 2 else if 256 < ns.length then 6 else if ns.Nodup then 0 else 9
def keep (ns : List Bs) (p : Pol) : List Bool := if err ns p = 0 then ns.map (keepB ns p) else []

/-! ### the program's own way -/
def at_ (ns : List Bs) (i : Nat) : Bs := ns[i]?.getD []
def perL (ns : List Bs) (sp : Int) : List Int → List Nat → List Nat
  | _, [] => []
  | seen, i :: r => if per sp (at_ ns i) ∈ seen then perL ns sp seen r else i :: perL ns sp (per sp (at_ ns i) :: seen) r
def mark (out : List Bool) (is : List Nat) : List Bool := is.foldl (fun o i => o.set i true) out
def base (ns : List Bs) (p : Pol) : List Bool := ns.map fun n => !(has n) || p.pins.contains n
def outF (ns : List Bs) (p : Pol) (l : List Nat) : List Bool :=
  mark (p.rules.foldl (fun o r => mark o ((perL ns r.1 [] l).take r.2.toNat)) (base ns p)) (l.take p.last.toNat)

structure Sorted (ns : List Bs) (l : List Nat) : Prop where
  mem : ∀ i, i ∈ l ↔ i < ns.length ∧ has (at_ ns i) = true
  nodup : l.Nodup
  ord : l.Pairwise fun i j => newer (at_ ns i) (at_ ns j) = true

/-! ### the order -/
theorem newer_iff (a b : Bs) : newer a b = true ↔ st b < st a ∨ (st a = st b ∧ b < a) := by simp [newer]
theorem newer_irrefl (a : Bs) : newer a a = false := by
  cases h : newer a a
  · rfl
  · rw [newer_iff] at h
    rcases h with h | ⟨_, h⟩
    · omega
    · exact absurd h (List.lt_irrefl a)
theorem newer_trans {a b c : Bs} (h1 : newer a b = true) (h2 : newer b c = true) : newer a c = true := by
  rw [newer_iff] at *
  rcases h1 with h1 | ⟨e1, h1⟩ <;> rcases h2 with h2 | ⟨e2, h2⟩
  · left; omega
  · left; omega
  · left; omega
  · right; exact ⟨by omega, List.lt_trans h2 h1⟩
theorem newer_asymm {a b : Bs} (h1 : newer a b = true) : newer b a = false := by
  cases h : newer b a
  · rfl
  · have := newer_trans h1 h; rw [newer_irrefl] at this; exact absurd this (by simp)
theorem newer_total {a b : Bs} (hab : a ≠ b) : newer a b = true ∨ newer b a = true := by
  rw [newer_iff, newer_iff]
  rcases Nat.lt_trichotomy (st a) (st b) with h | h | h
  · right; left; exact h
  · by_cases hl : a < b
    · right; right; exact ⟨h.symm, hl⟩
    · left; right
      refine ⟨h, ?_⟩
      have hle : b ≤ a := List.not_lt.1 hl
      by_cases hb : b < a
      · exact hb
      · have : a ≤ b := List.not_lt.1 hb
        exact absurd (List.le_antisymm this hle) hab
  · left; left; exact h


theorem per_le {sp : Int} (h : 0 < sp) {a b : Bs} (hn : newer a b = true) : per sp b ≤ per sp a := by
  unfold per
  refine Int.ediv_le_ediv h ?_
  rw [newer_iff] at hn
  omega
theorem newer_of_per {sp : Int} (h : 0 < sp) {a b : Bs} (hn : per sp b < per sp a) : newer a b = true := by
  rw [newer_iff]
  left
  by_cases hs : st b < st a
  · exact hs
  · have : per sp a ≤ per sp b := Int.ediv_le_ediv h (by omega)
    omega

/-! ### distinct numbers -/
theorem add_nodup {acc : List Int} (h : acc.Nodup) (x : Int) : (add acc x).Nodup := by
  unfold add
  split
  · exact h
  · rename_i hx
    exact List.nodup_append.2 ⟨h, by simp, fun a ha b hb => by simp at hb; rintro rfl; exact hx (hb ▸ ha)⟩
theorem mem_add {acc : List Int} {x y : Int} : y ∈ add acc x ↔ y ∈ acc ∨ y = x := by
  unfold add
  split
  · rename_i hx
    constructor
    · exact Or.inl
    · rintro (h | rfl)
      · exact h
      · exact hx
  · simp
theorem uniq_fold (l : List Int) : ∀ acc : List Int, acc.Nodup → (l.foldl add acc).Nodup ∧ ∀ y, y ∈ l.foldl add acc ↔ y ∈ acc ∨ y ∈ l := by
  induction l with
  | nil => intro acc h; exact ⟨h, by simp⟩
  | cons x r ih =>
    intro acc h
    obtain ⟨h1, h2⟩ := ih (add acc x) (add_nodup h x)
    refine ⟨h1, fun y => ?_⟩
    rw [List.foldl_cons, h2, mem_add, List.mem_cons]
    exact or_assoc
theorem uniq_nodup (l : List Int) : (uniq l).Nodup := (uniq_fold l [] (by simp)).1
theorem mem_uniq {l : List Int} {y : Int} : y ∈ uniq l ↔ y ∈ l := by rw [uniq, (uniq_fold l [] (by simp)).2]; simp
theorem nodup_length {α : Type} [BEq α] [LawfulBEq α] {a b : List α} (ha : a.Nodup) (h : ∀ y, y ∈ a → y ∈ b) : a.length ≤ b.length := by
  induction a generalizing b with
  | nil => simp
  | cons x r ih =>
    obtain ⟨hx, hr⟩ := List.nodup_cons.1 ha
    have hxb := h x (by simp)
    have := ih (b := b.erase x) hr (fun y hy => by
      have hne : y ≠ x := fun e => hx (e ▸ hy)
      exact (List.mem_erase_of_ne hne).2 (h y (by simp [hy])))
    rw [List.length_erase_of_mem hxb] at this
    have := List.length_pos_of_mem hxb
    simp only [List.length_cons]
    omega
theorem nodup_length_eq {α : Type} [BEq α] [LawfulBEq α] {a b : List α} (ha : a.Nodup) (hb : b.Nodup) (h : ∀ y, y ∈ a ↔ y ∈ b) : a.length = b.length :=
  Nat.le_antisymm (nodup_length ha fun y => (h y).1) (nodup_length hb fun y => (h y).2)

/-! ### marks -/
theorem mark_length (is : List Nat) : ∀ o : List Bool, (mark o is).length = o.length := by
  induction is with
  | nil => intro o; rfl
  | cons i r ih => intro o; show (mark (o.set i true) r).length = _; rw [ih]; simp
theorem mark_get (is : List Nat) : ∀ (o : List Bool) (j : Nat), j < o.length → (mark o is)[j]?.getD false = (o[j]?.getD false || decide (j ∈ is)) := by
  induction is with
  | nil => intro o j h; simp [mark]
  | cons i r ih =>
    intro o j h
    show (mark (o.set i true) r)[j]?.getD false = _
    rw [ih _ j (by simpa using h)]
    by_cases e : i = j
    · subst e; simp [h]
    · rw [List.getElem?_set_ne e]
      simp [Ne.symm e]
theorem marks_get (ns : List Bs) (l : List Nat) (rs : List (Int × Int)) : ∀ (o : List Bool) (j : Nat), j < o.length →
    (rs.foldl (fun o r => mark o ((perL ns r.1 [] l).take r.2.toNat)) o).length = o.length ∧
    (rs.foldl (fun o r => mark o ((perL ns r.1 [] l).take r.2.toNat)) o)[j]?.getD false = (o[j]?.getD false || rs.any fun r => decide (j ∈ (perL ns r.1 [] l).take r.2.toNat)) := by
  induction rs with
  | nil => intro o j h; simp
  | cons r rs ih =>
    intro o j h
    obtain ⟨h1, h2⟩ := ih (mark o ((perL ns r.1 [] l).take r.2.toNat)) j (by rw [mark_length]; exact h)
    rw [List.foldl_cons]
    refine ⟨by rw [h1, mark_length], ?_⟩
    rw [h2, mark_get _ _ _ h, List.any_cons, Bool.or_assoc]

/-! ### the sorted list -/
section
variable {ns : List Bs} {l : List Nat}

theorem Sorted.split (hs : Sorted ns l) {i : Nat} (hi : i ∈ l) : ∃ pre rest, l = pre ++ i :: rest ∧ (∀ j ∈ pre, newer (at_ ns j) (at_ ns i) = true) ∧ ∀ j ∈ rest, newer (at_ ns i) (at_ ns j) = true := by
  obtain ⟨pre, rest, rfl⟩ := List.append_of_mem hi
  have ho := hs.ord
  rw [List.pairwise_append] at ho
  obtain ⟨_, h2, h3⟩ := ho
  exact ⟨pre, rest, rfl, fun j hj => h3 j hj i (by simp), fun j hj => (List.pairwise_cons.1 h2).1 j hj⟩

/-- what is newer stands ahead -/
theorem Sorted.newer_mem (hs : Sorted ns l) {i : Nat} {pre rest : List Nat} (hl : l = pre ++ i :: rest) {j : Nat} (hj : j ∈ l) (hn : newer (at_ ns j) (at_ ns i) = true) : j ∈ pre := by
  have hi : i ∈ l := by rw [hl]; simp
  have ho := hs.ord
  rw [hl] at hj ho
  rcases List.mem_append.1 hj with h | h
  · exact h
  · rcases List.mem_cons.1 h with rfl | h
    · rw [newer_irrefl] at hn; cases hn
    · rw [List.pairwise_append] at ho
      have := (List.pairwise_cons.1 ho.2.1).1 j h
      rw [newer_asymm this] at hn; cases hn

theorem at_get {i : Nat} (h : i < ns.length) : at_ ns i = ns[i] := by simp [at_, h]

theorem map_range (P : Bs → Bool) (ns : List Bs) : (ns.filter P).length = ((List.range ns.length).filter fun i => P (at_ ns i)).length := by
  have e : ns = (List.range ns.length).map (at_ ns) := by
    apply List.ext_getElem
    · simp
    · intro i h1 h2; simp [at_get h1]
  conv => lhs; rw [e]
  rw [List.filter_map, List.length_map]
  rfl

theorem Sorted.ahead_eq (hs : Sorted ns l) {i : Nat} {pre rest : List Nat} (hl : l = pre ++ i :: rest) : ahead ns (at_ ns i) = pre.length := by
  unfold ahead
  rw [map_range]
  have hnd := hs.nodup
  have hpre : pre.Nodup := by rw [hl] at hnd; exact (List.nodup_append.1 hnd).1
  refine nodup_length_eq (List.nodup_range.filter _) hpre fun j => ?_
  rw [List.mem_filter, List.mem_range, Bool.and_eq_true]
  constructor
  · rintro ⟨h1, h2, h3⟩
    exact hs.newer_mem hl ((hs.mem j).2 ⟨h1, h2⟩) h3
  · intro hj
    have hm := (hs.mem j).1 (by rw [hl]; simp [hj])
    refine ⟨hm.1, hm.2, ?_⟩
    have ho := hs.ord
    rw [hl, List.pairwise_append] at ho
    exact ho.2.2 j hj i (by simp)

theorem mem_take_iff {α : Type} {l pre rest : List α} {i : α} (hl : l = pre ++ i :: rest) (hnd : l.Nodup) (c : Nat) : i ∈ l.take c ↔ pre.length < c := by
  subst hl
  have hni : i ∉ pre := fun h => (List.nodup_append.1 hnd).2.2 i h i (by simp) rfl
  rw [List.take_append, List.mem_append]
  constructor
  · rintro (h | h)
    · exact absurd (List.mem_of_mem_take h) hni
    · by_cases hc : pre.length < c
      · exact hc
      · rw [show c - pre.length = 0 from by omega] at h; simp at h
  · intro h
    right
    obtain ⟨k, hk⟩ : ∃ k, c - pre.length = k + 1 := ⟨c - pre.length - 1, by omega⟩
    rw [hk]; simp

theorem perL_sublist (sp : Int) (l : List Nat) : ∀ seen, (perL ns sp seen l).Sublist l := by
  induction l with
  | nil => intro seen; exact List.Sublist.refl _
  | cons i r ih =>
    intro seen
    unfold perL
    split
    · exact (ih _).cons _
    · exact (ih _).cons_cons _

def seenOf (ns : List Bs) (sp : Int) (seen : List Int) (l : List Nat) : List Int := (perL ns sp seen l).map (fun i => per sp (at_ ns i))

/-- the periods that were met are those of all -/
theorem perL_pers (sp : Int) (l : List Nat) : ∀ seen : List Int, (∀ y, y ∈ seenOf ns sp seen l ↔ y ∉ seen ∧ y ∈ l.map (fun i => per sp (at_ ns i))) ∧ (seenOf ns sp seen l).Nodup := by
  induction l with
  | nil => intro seen; simp [seenOf, perL]
  | cons i r ih =>
    intro seen
    by_cases h : per sp (at_ ns i) ∈ seen
    · obtain ⟨h1, h2⟩ := ih seen
      have e : seenOf ns sp seen (i :: r) = seenOf ns sp seen r := by unfold seenOf; rw [perL, if_pos h]
      rw [e]
      refine ⟨fun y => ?_, h2⟩
      rw [h1, List.map_cons, List.mem_cons]
      constructor
      · rintro ⟨a, b⟩; exact ⟨a, .inr b⟩
      · rintro ⟨a, b | b⟩
        · subst b; exact absurd h a
        · exact ⟨a, b⟩
    · obtain ⟨h1, h2⟩ := ih (per sp (at_ ns i) :: seen)
      have e : seenOf ns sp seen (i :: r) = per sp (at_ ns i) :: seenOf ns sp (per sp (at_ ns i) :: seen) r := by unfold seenOf; rw [perL, if_neg h, List.map_cons]
      rw [e]
      refine ⟨fun y => ?_, List.nodup_cons.2 ⟨fun hc => ((h1 _).1 hc).1 (by simp), h2⟩⟩
      rw [List.mem_cons, h1, List.map_cons, List.mem_cons, List.mem_cons]
      constructor
      · rintro (rfl | ⟨a, b⟩)
        · exact ⟨h, .inl rfl⟩
        · exact ⟨fun c => a (.inr c), .inr b⟩
      · rintro ⟨a, b | b⟩
        · exact .inl b
        · by_cases hy : y = per sp (at_ ns i)
          · exact .inl hy
          · exact .inr ⟨fun c => c.elim hy a, b⟩

theorem perL_append (sp : Int) (pre : List Nat) (r : List Nat) : ∀ seen : List Int, ∃ seen', (∀ y, y ∈ seen' ↔ y ∈ seen ∨ y ∈ pre.map (fun i => per sp (at_ ns i))) ∧ perL ns sp seen (pre ++ r) = perL ns sp seen pre ++ perL ns sp seen' r := by
  induction pre with
  | nil => intro seen; exact ⟨seen, by simp, by simp [perL]⟩
  | cons i p ih =>
    intro seen
    by_cases h : per sp (at_ ns i) ∈ seen
    · obtain ⟨s', h1, h2⟩ := ih seen
      refine ⟨s', fun y => ?_, ?_⟩
      · rw [h1, List.map_cons, List.mem_cons]
        constructor
        · exact fun a => a.elim .inl fun b => .inr (.inr b)
        · exact fun a => a.elim .inl fun b => b.elim (fun e => .inl (e ▸ h)) .inr
      · rw [List.cons_append, perL, if_pos h, perL, if_pos h, h2]
    · obtain ⟨s', h1, h2⟩ := ih (per sp (at_ ns i) :: seen)
      refine ⟨s', fun y => ?_, ?_⟩
      · rw [h1, List.map_cons, List.mem_cons, List.mem_cons]
        constructor
        · exact fun a => a.elim (fun b => b.elim (fun c => .inr (.inl c)) .inl) fun b => .inr (.inr b)
        · exact fun a => a.elim (fun b => .inl (.inr b)) fun b => b.elim (fun c => .inl (.inl c)) .inr
      · rw [List.cons_append, perL, if_neg h, perL, if_neg h, h2, List.cons_append]

theorem first_iff (n : Bs) (sp : Int) : first ns sp n = true ↔ ∀ m ∈ ns, has m = true → per sp m = per sp n → newer m n = false := by
  unfold first
  rw [List.all_eq_true]
  constructor
  · intro h m hm h1 h2
    have := h m hm
    simp [h1, h2] at this
    exact this
  · intro h m hm
    cases h1 : has m
    · simp
    · by_cases h2 : per sp m = per sp n
      · simp [h m hm h1 h2]
      · simp [h2]

theorem Sorted.rule (hs : Sorted ns l) {i : Nat} {pre rest : List Nat} (hl : l = pre ++ i :: rest) {sp c : Int} (hsp : 0 < sp) (hc : 0 ≤ c) : (i ∈ (perL ns sp [] l).take c.toNat) ↔ ruleB ns (at_ ns i) (sp, c) = true := by
  have hi : i ∈ l := by rw [hl]; simp
  have hnd := hs.nodup
  have hfirst : first ns sp (at_ ns i) = true ↔ per sp (at_ ns i) ∉ pre.map (fun i => per sp (at_ ns i)) := by
    rw [first_iff]
    constructor
    · intro h hm
      obtain ⟨j, hj, e⟩ := List.mem_map.1 hm
      obtain ⟨hjl, hjh⟩ := (hs.mem j).1 (by rw [hl]; simp [hj])
      have := h (at_ ns j) (by rw [at_get hjl]; exact List.getElem_mem _) hjh e
      have ho := hs.ord
      rw [hl, List.pairwise_append] at ho
      rw [ho.2.2 j hj i (by simp)] at this
      cases this
    · intro h m hm hh hp
      obtain ⟨j, hj, rfl⟩ := List.getElem_of_mem hm
      rw [← at_get hj] at hh hp ⊢
      cases hn : newer (at_ ns j) (at_ ns i)
      · rfl
      · exact absurd (List.mem_map.2 ⟨j, hs.newer_mem hl ((hs.mem j).2 ⟨hj, hh⟩) hn, hp⟩) h
  obtain ⟨s', h1, h2⟩ := perL_append (ns := ns) sp pre (i :: rest) []
  have hsub := perL_sublist (ns := ns) sp l []
  have hndp : (perL ns sp [] l).Nodup := hsub.nodup hnd
  by_cases hf : per sp (at_ ns i) ∈ pre.map (fun i => per sp (at_ ns i))
  · have hno : first ns sp (at_ ns i) = false := by
      cases h : first ns sp (at_ ns i)
      · rfl
      · exact absurd hf (hfirst.1 h)
    simp only [ruleB, hno, Bool.false_and, Bool.false_eq_true, iff_false]
    intro hm
    have hm := List.mem_of_mem_take hm
    rw [hl, h2, List.mem_append] at hm
    rw [hl] at hnd
    have hni : i ∉ pre := fun h => (List.nodup_append.1 hnd).2.2 i h i (by simp) rfl
    rcases hm with hm | hm
    · exact hni ((perL_sublist sp pre []).subset hm)
    · rw [perL, if_pos ((h1 _).2 (.inr hf))] at hm
      have := (perL_sublist sp rest s').subset hm
      exact (List.nodup_cons.1 (List.nodup_append.1 hnd).2.1).1 this
  · have hyes : first ns sp (at_ ns i) = true := hfirst.2 hf
    have hsplit : perL ns sp [] l = perL ns sp [] pre ++ i :: perL ns sp (per sp (at_ ns i) :: s') rest := by
      rw [hl, h2, perL, if_neg]
      intro hm
      rcases (h1 _).1 hm with h | h
      · cases h
      · exact hf h
    rw [mem_take_iff hsplit hndp]
    have hlater : later ns sp (at_ ns i) = (perL ns sp [] pre).length := by
      unfold later
      have hp := perL_pers (ns := ns) sp pre []
      have : (perL ns sp [] pre).length = (seenOf ns sp [] pre).length := by simp [seenOf]
      rw [this]
      refine nodup_length_eq (uniq_nodup _) hp.2 fun y => ?_
      rw [mem_uniq, hp.1]
      constructor
      · intro hy
        obtain ⟨m, hm, rfl⟩ := List.mem_map.1 hy
        rw [List.mem_filter, Bool.and_eq_true, decide_eq_true_eq] at hm
        obtain ⟨hm, hh, hlt⟩ := hm
        obtain ⟨j, hj, rfl⟩ := List.getElem_of_mem hm
        rw [← at_get hj] at hh hlt ⊢
        exact ⟨by simp, List.mem_map.2 ⟨j, hs.newer_mem hl ((hs.mem j).2 ⟨hj, hh⟩) (newer_of_per hsp hlt), rfl⟩⟩
      · rintro ⟨_, hy⟩
        obtain ⟨j, hj, rfl⟩ := List.mem_map.1 hy
        obtain ⟨hjl, hjh⟩ := (hs.mem j).1 (by rw [hl]; simp [hj])
        refine List.mem_map.2 ⟨at_ ns j, ?_, rfl⟩
        rw [List.mem_filter, Bool.and_eq_true, decide_eq_true_eq]
        refine ⟨by rw [at_get hjl]; exact List.getElem_mem _, hjh, ?_⟩
        have ho := hs.ord
        rw [hl, List.pairwise_append] at ho
        have hle := per_le hsp (ho.2.2 j hj i (by simp))
        have hne : per sp (at_ ns j) ≠ per sp (at_ ns i) := fun e => hf (List.mem_map.2 ⟨j, hj, e⟩)
        omega
    simp only [ruleB, hyes, Bool.true_and, decide_eq_true_eq, hlater]
    omega

/-- **What the program marks is what the document keeps.** -/
theorem Sorted.outF_eq (hs : Sorted ns l) (p : Pol) (hr : ∀ r ∈ p.rules, 0 < r.1 ∧ 0 ≤ r.2) (hlast : 0 ≤ p.last) : outF ns p l = ns.map (keepB ns p) := by
  have hlen : (outF ns p l).length = ns.length := by
    unfold outF
    rw [mark_length]
    by_cases h0 : 0 < ns.length
    · rw [(marks_get ns l p.rules (base ns p) 0 (by simpa [base] using h0)).1]; simp [base]
    · have : ns = [] := List.eq_nil_of_length_eq_zero (by omega)
      subst this
      have : ∀ (rs : List (Int × Int)) (o : List Bool), o.length = 0 → (rs.foldl (fun o r => mark o ((perL [] r.1 [] l).take r.2.toNat)) o).length = 0 := by
        intro rs
        induction rs with
        | nil => intro o h; exact h
        | cons r rs ih => intro o h; exact ih _ (by rw [mark_length]; exact h)
      exact this _ _ (by simp [base])
  apply List.ext_getElem
  · rw [hlen]; simp
  · intro j h1 h2
    have hj : j < ns.length := by rwa [hlen] at h1
    have hjb : j < (base ns p).length := by simpa [base] using hj
    have e1 : (outF ns p l)[j] = (outF ns p l)[j]?.getD false := by simp [h1]
    have hm := marks_get ns l p.rules (base ns p) j hjb
    rw [e1]
    unfold outF
    rw [mark_get _ _ _ (by rw [hm.1]; exact hjb), hm.2]
    have eb : (base ns p)[j]?.getD false = (!(has ns[j]) || p.pins.contains ns[j]) := by simp [base, hj]
    rw [eb, List.getElem_map]
    unfold keepB
    cases hh : has ns[j]
    · simp
    · have hjl : j ∈ l := (hs.mem j).2 ⟨hj, by rw [at_get hj]; exact hh⟩
      obtain ⟨pre, rest, hl, _, _⟩ := hs.split hjl
      have e2 : (decide (j ∈ l.take p.last.toNat)) = decide ((ahead ns ns[j] : Int) < p.last) := by
        rw [decide_eq_decide, mem_take_iff hl hs.nodup, ← at_get hj, hs.ahead_eq hl]
        omega
      have e3 : (p.rules.any fun r => decide (j ∈ (perL ns r.1 [] l).take r.2.toNat)) = p.rules.any (ruleB ns ns[j]) := by
        rw [Bool.eq_iff_iff, List.any_eq_true, List.any_eq_true]
        constructor
        · rintro ⟨r, h3, h4⟩
          refine ⟨r, h3, ?_⟩
          have := (hs.rule hl (hr r h3).1 (hr r h3).2).1 (by simpa using h4)
          rwa [at_get hj] at this
        · rintro ⟨r, h3, h4⟩
          refine ⟨r, h3, ?_⟩
          rw [← at_get hj] at h4
          simpa using (hs.rule hl (hr r h3).1 (hr r h3).2).2 h4
      rw [e2, e3]
      unfold kept
      simp only [Bool.not_true, Bool.false_or]
      generalize decide ((ahead ns ns[j] : Int) < p.last) = a
      generalize p.rules.any (ruleB ns ns[j]) = b
      generalize p.pins.contains ns[j] = c
      cases a <;> cases b <;> cases c <;> rfl
end
end Go.Proofs.YtbajnkkekibdmaaDoor.Pl
