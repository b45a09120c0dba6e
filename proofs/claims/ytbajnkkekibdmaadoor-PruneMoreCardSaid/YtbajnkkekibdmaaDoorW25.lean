/- What PruneMore makes in memory, and the greater policy in plain words: it keeps more. -/
import Derived.Test.YtbajnkkekibdmaaDoorW22
import Derived.Test.YtbajnkkekibdmaaDoorW24
import Derived.IntWalk
import Derived.Deep.DeepCutAuto
namespace Go.Proofs.YtbajnkkekibdmaaDoor
open Go.RowKit Go.Shelf Go.Lib

/-- the two boxes that stand from the beginning -/
structure MxA (w W : World) (p : Po) (RA PA : Option Addr) (rc pc : Nat) (sp cn : Int) : Prop where
  bx : Bx w W w.heap.size 25 p RA PA rc pc
  rb : Whole W (w.heap.size + 1) 46 [.int .u32 sp, .int .i64 cn]
/-- the policy as the program has it, and the rule's box -/
structure MxB (w W : World) (bq : Nat) (p : Po) (RA PA : Option Addr) (rc pc : Nat) (sp cn : Int) : Prop where
  bx : Bx w W bq 37 p RA PA rc pc
  rb : Whole W (w.heap.size + 1) 46 [.int .u32 sp, .int .i64 cn]
  rm : Mem W W.heap.size RA (rules p.rs)
section
variable {w W W' : World} {p : Po} {RA PA : Option Addr} {rc pc bq : Nat} {sp cn : Int}
theorem MxA.next (h : MxA w W p RA PA rc pc sp cn) (hb : Below W.heap.size W W') : MxA w W' p RA PA rc pc sp cn := ⟨h.bx.next hb, h.rb.below hb h.rb.lt⟩
theorem MxB.next (h : MxB w W bq p RA PA rc pc sp cn) (hb : Below W.heap.size W W') : MxB w W' bq p RA PA rc pc sp cn := ⟨h.bx.next hb, h.rb.below hb h.rb.lt, (h.rm.below hb).mono hb.size⟩
theorem MxA.start (w : World) (p : Po) (RA PA : Option Addr) (rc pc : Nat) (sp cn : Int) :
    MxA w ((w.alloc (.cells #[.int .i64 p.last, .slice RA p.rs.length rc, .slice PA p.ps.length pc] 25)).alloc (.cells #[.int .u32 sp, .int .i64 cn] 46)) p RA PA rc pc sp cn := by
  have h0 := Bx.start w 25 p RA PA rc pc
  have hz : (w.alloc (.cells #[.int .i64 p.last, .slice RA p.rs.length rc, .slice PA p.ps.length pc] 25)).heap.size = w.heap.size + 1 := by simp
  generalize w.alloc (.cells #[.int .i64 p.last, .slice RA p.rs.length rc, .slice PA p.ps.length pc] 25) = w1 at *
  have h1 := Whole.new w1 [.int .u32 sp, .int .i64 cn] 46
  rw [hz] at h1
  exact ⟨h0.next ((Below.refl _ _).alloc (Nat.le_refl _) _), h1⟩
theorem MxB.start {w3 : World} {A3 : Option Addr} {k3 : Nat} (h : MxA w w3 p RA PA rc pc sp cn) (hm : Mem w3 w3.heap.size A3 (rules p.rs)) :
    MxB w (w3.alloc (.cells #[.int .i64 p.last, .slice A3 p.rs.length k3, .slice PA p.ps.length pc] 37)) w3.heap.size p A3 PA k3 pc sp cn :=
  have hb : Below w3.heap.size w3 (w3.alloc (.cells #[.int .i64 p.last, .slice A3 p.rs.length k3, .slice PA p.ps.length pc] 37)) := (Below.refl _ _).alloc (Nat.le_refl _) _
  ⟨h.bx.again (Bx.start w3 37 p A3 PA k3 pc), h.rb.below hb h.rb.lt, (hm.below hb).mono hb.size⟩
/-- a block of another type than the row's is not the row's -/
theorem own_ne {base : Nat} {e : TypeId} {size : Nat} {v : Value} {n : Nat} {xs cs : List Value} {b : Nat} {t : TypeId} (h : W.ownsRow base e size v n xs) (hb : Whole W b t cs) (hne : t ≠ e) : some b ≠ v.ownBlock := by
  rcases h.2 with ⟨rfl, _⟩ | ⟨g, cap, cur, rfl, _, hg, _⟩
  · intro h; cases h
  · intro h
    injection h with h
    subst h
    unfold Whole at hb
    rw [hg] at hb
    injection hb with hb
    injection hb with _ hb
    exact hne hb.symm
theorem Whole.grown {b : Nat} {t : TypeId} {cs : List Value} {row : Option Nat} (h : Whole W b t cs) (hg : W.grownBy W' row) (hne : some b ≠ row) : Whole W' b t cs := h.of_block (hg.block b h.lt hne)
theorem Whole.mem {b : Nat} {t : TypeId} {cs : List Value} (h : Whole W b t cs) : Mem W W.heap.size (some ⟨b, 0, none⟩) cs := fun _ => ⟨b, 0, rfl, h.lt, fun i hi => by rw [Nat.zero_add, h.cell]; exact List.getElem?_eq_getElem hi⟩
theorem one_pin {pin : ByteArray} : ∀ u ∈ [Value.string pin], u.oneCell' = true := by
  intro u hu
  simp at hu
  subst hu
  rfl
/-- a store into another block leaves the row -/
theorem owns_far {base : Nat} {e : TypeId} {size : Nat} {v : Value} {n : Nat} {xs : List Value} (h : W.ownsRow base e size v n xs) {b : Nat} (hne : some b ≠ v.ownBlock) (i : Nat) (u : Value) : (W.setCell ⟨b, i, none⟩ u).ownsRow base e size v n xs := by
  refine ⟨h.1, ?_⟩
  rcases h.2 with ⟨rfl, rfl⟩ | ⟨g, cap, cur, rfl, hb, hg, h1, h2, h3, h4⟩
  · exact .inl ⟨rfl, rfl⟩
  · exact .inr ⟨g, cap, cur, rfl, hb, (Below.heap_setCell W ⟨b, i, none⟩ u g (by simp only; intro h; exact hne (by rw [h]; rfl))).trans hg, h1, h2, h3, h4⟩
end
/-- behind the region: the new policy's box, its pins in a row of their own -/
def PinSt (w4 : World) (p : Po) (pin : ByteArray) (la' : Int) (s14 : Value) (W : World) : Prop :=
  ∃ (bo : Nat) (A8 : Option Addr) (q8 : Nat), s14 = .pointer (some ⟨bo, 0, none⟩) ∧ Below w4.heap.size w4 W ∧ w4.heap.size ≤ bo ∧ Whole W bo 37 [.int .i64 la', .slice none 0 0, .slice A8 (p.ps.length + 1) q8] ∧
    W.ownsRow w4.heap.size 9 1 (.slice A8 (p.ps.length + 1) q8) (p.ps.length + 1) (strs (p.ps ++ [pin]))
theorem PinSt.below {w4 W : World} {p : Po} {pin : ByteArray} {la' : Int} {s14 : Value} (h : PinSt w4 p pin la' s14 W) : Below w4.heap.size w4 W := by
  obtain ⟨_, _, _, _, h, _⟩ := h
  exact h
theorem PinSt.mk_ {w4 W : World} {p : Po} {pin : ByteArray} {la' : Int} {bo : Nat} {A8 : Option Addr} {q8 : Nat} (hB : Below w4.heap.size w4 W) (hle : w4.heap.size ≤ bo) (hbo : Whole W bo 37 [.int .i64 0, .slice none 0 0, .slice none 0 0])
    (ho : W.ownsRow w4.heap.size 9 1 (.slice A8 (p.ps.length + 1) q8) (p.ps.length + 1) (strs p.ps ++ [.string pin])) :
    PinSt w4 p pin la' (.pointer (some ⟨bo, 0, none⟩)) (((W.setCell ⟨bo, 0, none⟩ (.int .i64 la')).setCell ⟨bo, 1, none⟩ (.slice none 0 0)).setCell ⟨bo, 2, none⟩ (.slice A8 (p.ps.length + 1) q8)) := by
  have hne := own_ne ho hbo (by decide)
  have h1 := ((hbo.set_ 0 (.int .i64 la')).set_ 1 (.slice none 0 0)).set_ 2 (.slice A8 (p.ps.length + 1) q8)
  have h2 := owns_far (owns_far (owns_far ho hne 0 (.int .i64 la')) hne 1 (.slice none 0 0)) hne 2 (.slice A8 (p.ps.length + 1) q8)
  have h3 := ((hB.setCell (p := ⟨bo, 0, none⟩) hle (.int .i64 la')).setCell (p := ⟨bo, 1, none⟩) hle (.slice none 0 0)).setCell (p := ⟨bo, 2, none⟩) hle (.slice A8 (p.ps.length + 1) q8)
  refine ⟨bo, A8, q8, rfl, h3, hle, h1, ?_⟩
  have e : strs p.ps ++ [Value.string pin] = strs (p.ps ++ [pin]) := by rw [strs_app]; rfl
  rw [e] at h2
  exact h2
theorem ownsRow_stay {W' : World} {base : Nat} {e : TypeId} {size : Nat} {v : Value} {n : Nat} {xs : List Value} {W : World} (h : W.ownsRow base e size v n xs) (hk : ∀ g, v.ownBlock = some g → W'.heap[g]? = W.heap[g]?) : W'.ownsRow base e size v n xs := by
  refine ⟨h.1, ?_⟩
  rcases h.2 with ⟨rfl, rfl⟩ | ⟨g, cap, cur, rfl, hb, hg, h1, h2, h3, h4⟩
  · exact .inl ⟨rfl, rfl⟩
  · exact .inr ⟨g, cap, cur, rfl, hb, (hk g rfl).trans hg, h1, h2, h3, h4⟩
/-- the greater policy on its way: its box, its pins' row, and the row of its rules so far -/
structure Nw (w4 : World) (base bo : Nat) (p : Po) (pin : ByteArray) (la' : Int) (A8 : Option Addr) (q8 : Nat) (W : World) (n : Nat) (A9 : Option Addr) (c9 : Nat) (rl : List (Int × Int)) : Prop where
  bel : Below w4.heap.size w4 W
  lo : w4.heap.size ≤ bo
  hi : bo < base
  sz : base ≤ W.heap.size
  out : Whole W bo 37 [.int .i64 la', .slice A9 n c9, .slice A8 (p.ps.length + 1) q8]
  pins : W.ownsRow w4.heap.size 9 1 (.slice A8 (p.ps.length + 1) q8) (p.ps.length + 1) (strs (p.ps ++ [pin]))
  pinlt : ∀ g, (Value.slice A8 (p.ps.length + 1) q8).ownBlock = some g → g < base
  own : W.ownsRow base 45 2 (.slice A9 n c9) n (rules rl)
section
variable {w4 W W' : World} {base bo : Nat} {p : Po} {pin : ByteArray} {la' : Int} {A8 : Option Addr} {q8 n : Nat} {A9 : Option Addr} {c9 : Nat} {rl : List (Int × Int)}
theorem Nw.start {s14 : Value} (h : PinSt w4 p pin la' s14 W) : ∃ bo A8 q8, s14 = .pointer (some ⟨bo, 0, none⟩) ∧ Nw w4 W.heap.size bo p pin la' A8 q8 W 0 none 0 [] := by
  obtain ⟨bo, A8, q8, rfl, h1, h2, h3, h4⟩ := h
  exact ⟨bo, A8, q8, rfl, h1, h2, h3.lt, Nat.le_refl _, h3, h4, fun g hg => (h4.lt g hg).2, ⟨rfl, .inl ⟨rfl, rfl⟩⟩⟩
/-- what changes nothing below base and leaves the rules' row -/
theorem Nw.next (h : Nw w4 base bo p pin la' A8 q8 W n A9 c9 rl) (hb : Below base W W') (ho : W'.ownsRow base 45 2 (.slice A9 n c9) n (rules rl)) : Nw w4 base bo p pin la' A8 q8 W' n A9 c9 rl :=
  ⟨h.bel.trans (hb.mono (Nat.le_trans h.lo (Nat.le_of_lt h.hi))), h.lo, h.hi, Nat.le_trans h.sz hb.size, h.out.below hb h.hi, ownsRow_stay h.pins (fun g hg => hb.block g (h.pinlt g hg)), h.pinlt, ho⟩
theorem Nw.call (h : Nw w4 base bo p pin la' A8 q8 W n A9 c9 rl) (hb : Below W.heap.size W W') : Nw w4 base bo p pin la' A8 q8 W' n A9 c9 rl :=
  h.next (hb.mono h.sz) (owns_below h.own hb)
theorem Nw.drew (h : Nw w4 base bo p pin la' A8 q8 W n A9 c9 rl) : Nw w4 base bo p pin la' A8 q8 W.drew n A9 c9 rl := h.call (Below.refl _ _).drew
theorem Nw.alloc (h : Nw w4 base bo p pin la' A8 q8 W n A9 c9 rl) (cs : Obj) : Nw w4 base bo p pin la' A8 q8 (W.alloc cs) n A9 c9 rl := h.call ((Below.refl _ _).alloc (Nat.le_refl _) _)
theorem Nw.app {A2 : Option Addr} {q2 : Nat} {sp cn : Int} (h : Nw w4 base bo p pin la' A8 q8 W n A9 c9 rl) (hb : Below base W W') (ho : W'.ownsRow base 45 2 (.slice A2 (n + 1) q2) (n + 1) (rules rl ++ [.int .u32 sp, .int .i64 cn])) :
    Nw w4 base bo p pin la' A8 q8 (W'.setCell ⟨bo, 1, none⟩ (.slice A2 (n + 1) q2)) (n + 1) A2 q2 (rl ++ [(sp, cn)]) := by
  have h1 := h.out.below hb h.hi
  have hp := ownsRow_stay h.pins (fun g hg => hb.block g (h.pinlt g hg))
  refine ⟨(h.bel.trans (hb.mono (Nat.le_trans h.lo (Nat.le_of_lt h.hi)))).setCell h.lo _, h.lo, h.hi, ?_, h1.set_ 1 _, owns_far hp (own_ne hp h1 (by decide)) 1 _, h.pinlt, ?_⟩
  · rw [World.size_setCell]
    exact Nat.le_trans h.sz hb.size
  · rw [rules_snoc]
    exact owns_set ho h.hi _ _
end

/-! ### the greater policy -/
def upd (co : Int) (l : List (Int × Int)) : List (Int × Int) := l.map fun r => (r.1, IntKind.i64.wrap (r.2 + co))
def gPo (p : Po) (la co sp cn : Int) (pin : ByteArray) : Po := ⟨IntKind.i64.wrap (p.last + la), upd co p.rs ++ [(sp, cn)], p.ps ++ [pin]⟩
theorem upd_len (co : Int) (l : List (Int × Int)) : (upd co l).length = l.length := by simp [upd]
theorem upd_step {co : Int} {l : List (Int × Int)} {k : Nat} (h : k < l.length) : upd co (l.take (k + 1)) = upd co (l.take k) ++ [(l[k].1, IntKind.i64.wrap (l[k].2 + co))] := by
  unfold upd
  rw [List.take_succ_eq_append_getElem h, List.map_append]
  rfl
/-- what Keep answers of the two policies -/
structure MF (ss : List ByteArray) (pin : ByteArray) (e f : Int) (m : Bool) (a b : List Bool) : Prop where
  may : f ≠ 0 ∨ e ≠ 0 → m = true ∨ f = 2
  la : e = 0 → a.length = ss.length
  lb : f = 0 → b.length = ss.length
  more : e = 0 → f = 0 → ∀ k (ha : k < a.length) (hb : k < b.length), a[k] = true → b[k] = true
  pin : f = 0 → ∀ k (hk : k < ss.length) (hb : k < b.length), ss[k].data.toList = pin.data.toList → b[k] = true
theorem keep_get {ss : List ByteArray} {p : Po} (h : Pl.err (bss ss) p.pol = 0) (k : Nat) (hk : k < ss.length) (hb : k < (Pl.keep (bss ss) p.pol).length) : (Pl.keep (bss ss) p.pol)[k] = Pl.keepB (bss ss) p.pol ss[k].data.toList := by
  have e : Pl.keep (bss ss) p.pol = (bss ss).map (Pl.keepB (bss ss) p.pol) := if_pos h
  simp only [e, List.getElem_map, bss_get ss k hk]
theorem mf_of (ss : List ByteArray) (p : Po) (la co sp cn : Int) (pin : ByteArray) (hla0 : 0 ≤ la) (hla1 : la ≤ 255) (hco0 : 0 ≤ co) (hco1 : co ≤ 255) :
    MF ss pin (Pl.err (bss ss) p.pol) (Pl.err (bss ss) (gPo p la co sp cn pin).pol) (Pl.may (gPo p la co sp cn pin).pol) (Pl.keep (bss ss) p.pol) (Pl.keep (bss ss) (gPo p la co sp cn pin).pol) := by
  refine ⟨fun _ => ?_, keep_len, keep_len, fun he hf k ha hb h => ?_, fun hf k hk hb h => ?_⟩
  · unfold Pl.err
    cases Pl.may (gPo p la co sp cn pin).pol
    · right; rfl
    · left; rfl
  · have hk : k < ss.length := by rw [keep_len he] at ha; exact ha
    rw [keep_get hf k hk hb]
    rw [keep_get he k hk ha] at h
    obtain ⟨h1, h2, h3, h4, h5⟩ := Pl.may_parts ((Pl.err_iff _ _).1 he).1
    have hw : ∀ x y : Int, 0 ≤ x → x ≤ 64 → 0 ≤ y → y ≤ 255 → IntKind.i64.wrap (x + y) = x + y := fun x y _ _ _ _ => IntWalk.i64_in _ (by omega)
    refine Pl.more _ p.pol _ ?_ ?_ ?_ _ h
    · show p.last ≤ IntKind.i64.wrap (p.last + la)
      rw [hw p.last la h1.1 h1.2 hla0 hla1]
      exact Int.le_add_of_nonneg_right hla0
    · intro r hr
      have hr1 := h4 r hr
      refine ⟨IntKind.i64.wrap (r.2 + co), ?_, ?_⟩
      · rw [hw _ _ hr1.2.1 hr1.2.2 hco0 hco1]
        omega
      · show _ ∈ upd co p.rs ++ [(sp, cn)]
        exact List.mem_append_left _ (List.mem_map.2 ⟨r, hr, rfl⟩)
    · intro s hs
      show s ∈ bss (p.ps ++ [pin])
      have hs' : s ∈ bss p.ps := hs
      unfold bss at hs' ⊢
      rw [List.map_append]
      exact List.mem_append_left _ hs'
  · rw [keep_get hf k hk hb]
    unfold Pl.keepB
    have hm : ss[k].data.toList ∈ bss (p.ps ++ [pin]) := by
      unfold bss
      rw [List.map_append]
      exact List.mem_append_right _ (by simp [h])
    have hc : (gPo p la co sp cn pin).pol.pins.contains ss[k].data.toList = true := by simpa [gPo, Po.pol] using hm
    rw [hc, Bool.or_true]
section
variable {w W : World} {p q : Po} {RA PA A A9 A8 : Option Addr} {ss : List ByteArray} {n m : Nat} {l : Int}
theorem InAt.keepG (h : InAt w p RA PA A ss) (hb : Below w.heap.size w W) (hq : PoAt W W.heap.size q A9 A8) (hsp : ∀ r ∈ q.rs, 0 ≤ r.1 ∧ r.1 < 4294967296) (hl : l = q.last) (hn : n = q.rs.length) (hm : m = q.ps.length) (rc pc cap : Nat) :
    Calls Tryd.prog 10 #[.slice A ss.length cap, .agg #[.int .i64 l, .slice A9 n rc, .slice A8 m pc]] W (KeepRes ss q W) := by
  subst hl hn hm
  have g := h.at_ hb
  exact keep_any q A9 A8 rc pc A cap ss W hq g.names g.texts hsp
theorem mayG (hq : PoAt W W.heap.size q A9 A8) (hl : l = q.last) (hn : n = q.rs.length) (hm : m = q.ps.length) (rc pc : Nat) :
    Calls Tryd.prog 13 #[.agg #[.int .i64 l, .slice A9 n rc, .slice A8 m pc]] W fun e w' => e = .returned (.bool (Pl.may q.pol)) ∧ Below W.heap.size W w' := by
  subst hl hn hm
  exact may_any q A9 A8 rc pc W hq
theorem owns_strs' {w : World} {base n c : Nat} {A : Option Addr} {l : List ByteArray} (h : w.ownsRow base 9 1 (.slice A n c) n (strs l)) : Mem w w.heap.size A (strs l) := by
  intro h0
  have hl := h.1
  rcases h.2 with ⟨e, h1⟩ | ⟨g, cap, cur, e, _, hg, h1, _, h3, h4⟩
  · omega
  · injection e with e _ e2
    subst e
    refine ⟨g, 0, rfl, (Array.getElem?_eq_some_iff.1 hg).1, fun i hi => ?_⟩
    have e : cur.toList[i]? = some ((strs l)[i]) := by
      rw [← List.getElem?_eq_getElem, ← h4, List.getElem?_take_of_lt (by omega)]
    rw [Array.getElem?_toList] at e
    simp [World.cell?, hg, e]
theorem Nw.pol {w4 : World} {base bo : Nat} {pin : ByteArray} {la' : Int} {q8 c9 : Nat} {rl : List (Int × Int)} (h : Nw w4 base bo p pin la' A8 q8 W n A9 c9 rl) (hr : rl.length ≤ 9223372036854775807) (hp : p.ps.length ≤ 40) (ht : ∀ s ∈ p.ps, s.size ≤ maxLen) (hpin : pin.size ≤ maxLen) :
    PoAt W W.heap.size ⟨l, rl, p.ps ++ [pin]⟩ A9 A8 :=
  ⟨owns_rules h.own, owns_strs' h.pins, hr, by simp; omega, fun s hs => by
    rcases List.mem_append.1 hs with hs | hs
    · exact ht s hs
    · rw [List.mem_singleton.1 hs]; exact hpin⟩
theorem Nw.polG {w4 : World} {base bo : Nat} {pin : ByteArray} {la la' co sp cn : Int} {q8 c9 : Nat} (h : Nw w4 base bo p pin la' A8 q8 W n A9 c9 (upd co p.rs ++ [(sp, cn)])) (hr : p.rs.length ≤ 40) (hp : p.ps.length ≤ 40) (ht : ∀ s ∈ p.ps, s.size ≤ maxLen) (hpin : pin.size ≤ maxLen) :
    PoAt W W.heap.size (gPo p la co sp cn pin) A9 A8 :=
  Nw.pol h (by rw [List.length_append, upd_len]; simp; omega) hp ht hpin
theorem gPo_spans {pin : ByteArray} {la co sp cn : Int} (h : ∀ r ∈ p.rs, 0 ≤ r.1 ∧ r.1 < 4294967296) (h0 : 0 ≤ sp) (h1 : sp < 4294967296) : ∀ r ∈ (gPo p la co sp cn pin).rs, 0 ≤ r.1 ∧ r.1 < 4294967296 := by
  intro r hr
  rcases List.mem_append.1 hr with hr | hr
  · obtain ⟨s, hs, rfl⟩ := List.mem_map.1 hr
    exact h s hs
  · rw [List.mem_singleton.1 hr]
    exact ⟨h0, h1⟩
end
end Go.Proofs.YtbajnkkekibdmaaDoor
