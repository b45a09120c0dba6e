/- Walk of newest: the snapshots with a stamp are collected and sorted. -/
import Derived.Test.YtbajnkkekibdmaaDoorW7
import Derived.Test.YtbajnkkekibdmaaDoorPlain2
import Derived.Sort.OwnSorted
import Derived.Deep.DeepMust
namespace Go.Proofs.YtbajnkkekibdmaaDoor
open Go.RowKit Go.Shelf Go.Lib

def ones (l : List One) : List Value := l.flatMap One.enc
theorem ones_len (l : List One) : (ones l).length = l.length * 3 := by
  induction l with
  | nil => rfl
  | cons x l ih => simp only [ones, List.flatMap_cons, List.length_append, List.length_cons] at ih ⊢; simp only [One.enc, List.length_cons, List.length_nil]; omega
theorem ones_get? (l : List One) (i c : Nat) (hi : i < l.length) (hc : c < 3) : (ones l)[i * 3 + c]? = (One.enc l[i])[c]? := by
  induction l generalizing i with
  | nil => simp at hi
  | cons x l ih =>
    cases i with
    | zero =>
      have h3 : c < (One.enc x).length := by simpa [One.enc] using hc
      simp only [ones, List.flatMap_cons, Nat.zero_mul, Nat.zero_add]
      rw [List.getElem?_append_left h3]
      rfl
    | succ i =>
      have := ih i (by simpa using hi)
      simp only [ones, List.flatMap_cons]
      rw [List.getElem?_append_right (by simp [One.enc]; omega)]
      have e : (i + 1) * 3 + c - (One.enc x).length = i * 3 + c := by simp [One.enc]; omega
      rw [e]
      exact this
theorem ones_snoc (l : List One) (x : One) : ones (l ++ [x]) = ones l ++ One.enc x := by simp [ones]
theorem flatK_ones (l : List One) : Sort.flatK One.enc 3 l.toArray = (ones l).toArray := by
  apply Sort.ext_get!
  · simp [ones_len]
  · intro t ht
    have ht' : t < l.length * 3 := by simpa using ht
    rw [Sort.get_flatK _ _ _ _ (by simpa using ht')]
    have hi : t / 3 < l.length := by omega
    have hg := ones_get? l (t / 3) (t % 3) hi (by omega)
    rw [show t / 3 * 3 + t % 3 = t from by omega] at hg
    have e1 : l.toArray[t / 3]! = l[t / 3] := by simp [hi]
    have e2 : (ones l).toArray[t]! = ((ones l)[t]?).getD default := by simp
    rw [e1, e2, hg]
    simp

/-- those with a stamp among the first k -/
def oneAt (ss : List ByteArray) (i : Nat) : List One := if Pl.has (Pl.at_ (bss ss) i) then [⟨i, ss[i]?.getD ByteArray.empty, Pl.st (Pl.at_ (bss ss) i)⟩] else []
def onesTo (ss : List ByteArray) (k : Nat) : List One := (List.range k).flatMap (oneAt ss)
theorem onesTo_succ (ss : List ByteArray) (k : Nat) : onesTo ss (k + 1) = onesTo ss k ++ oneAt ss k := by simp [onesTo, List.range_succ]
theorem onesTo_len (ss : List ByteArray) (k : Nat) : (onesTo ss k).length ≤ k := by
  induction k with
  | zero => simp [onesTo]
  | succ k ih => rw [onesTo_succ, List.length_append]; unfold oneAt; split <;> simp <;> omega

/-- what newest hands back -/
structure Sorted1 (ss : List ByteArray) (d : List One) : Prop where
  perm : d.Perm (onesTo ss ss.length)
  ord : d.Pairwise fun x y => ltOf cf y x = false

theorem grownBy_put {w : World} {g off n : Nat} {os : Array Obj} (F : Array Value) : w.grownBy (Sort.grow (Sort.putRow id (Sort.ahead w n) g off F) os) (some g) := by
  refine ⟨rfl, rfl, rfl, by simp, fun k hk hne => ?_⟩
  rw [Sort.heap_grow_old _ _ (by simpa using hk)]
  have : g ≠ k := fun e => hne (by rw [e])
  simp [Sort.putRow, Sort.mapBlock, Sort.ahead, Array.getElem?_modify, this]

theorem grown_of_below {w w' : World} (h : Below w.heap.size w w') : w.grownBy w' none := ⟨h.os, h.tape, h.output, h.size, fun k hk _ => h.block k hk⟩
theorem owns_below {w w' : World} {base size n : Nat} {e : TypeId} {v : Value} {xs : List Value} (h : w.ownsRow base e size v n xs) (hb : Below w.heap.size w w') : w'.ownsRow base e size v n xs := by
  refine h.kept (grown_of_below hb) ?_
  cases v.ownBlock with
  | none => exact .inl rfl
  | some g => exact .inr (by simp)

theorem add_addr (b o j : Nat) : (⟨b, o, none⟩ : Addr).add j = ⟨b, o + j, none⟩ := by
  unfold Addr.add
  split
  · rename_i h; subst h; rfl
  · rfl
theorem new_cells (w : World) (cs : List Value) (t : TypeId) (j : Nat) (u : Value) (h : cs[j]? = some u) : (w.alloc (.cells cs.toArray t)).cell? ((⟨w.heap.size, 0, none⟩ : Addr).add j) = some u := by
  rw [add_addr, Nat.zero_add, cell_new]
  simpa using h
theorem one_enc_cell (x : One) : ∀ v ∈ One.enc x, v.oneCell' = true := by
  intro v hv
  simp [One.enc] at hv
  rcases hv with rfl | rfl | rfl <;> rfl
theorem holds_ones {w : World} {base g cap : Nat} {l : List One} (h : w.ownsRow base 57 3 (.slice (some ⟨g, 0, none⟩) l.length cap) l.length (ones l)) : Sort.HoldsK One.enc 3 w g 0 l.toArray := by
  unfold Sort.HoldsK
  rw [flatK_ones]
  intro j hj
  have hj' : j < (ones l).length := by simpa using hj
  rcases h.2 with ⟨h0, _⟩ | ⟨g', cap', cur, hv, _, hb, h1, h2, h3, h4⟩
  · cases h0
  · cases hv
    have hcur : cur[j]? = some (ones l)[j] := by
      have e : (cur.toList.take (l.length * 3))[j]? = (ones l)[j]? := by rw [h4]
      rw [List.getElem?_take_of_lt (by rw [ones_len] at hj'; exact hj'), Array.getElem?_toList, List.getElem?_eq_getElem hj'] at e
      exact e
    constructor
    · rw [Nat.zero_add]
      unfold World.cell?
      simp only [hb]
      simp [hcur, hj']
    · simp [World.frozen?, hb]

def Newest (ss : List ByteArray) (w : World) (e : Ending) (w' : World) : Prop :=
  ∃ (A : Option Addr) (cap : Nat) (d : List One), e = .returned (.slice A d.length cap) ∧ Below w.heap.size w w' ∧ Mem w' w'.heap.size A (ones d) ∧ d.length ≤ ss.length ∧ d.length ≤ cap ∧ Sorted1 ss d ∧ ∀ b off, A = some ⟨b, off, none⟩ → w.heap.size ≤ b

theorem flatK_toList (d' : Array One) : Sort.flatK One.enc 3 d' = (ones d'.toList).toArray := flatK_ones d'.toList

/-- BEHIND THE SORT: what newest hands back. -/
theorem newest_end {ss : List ByteArray} {w wr : World} {g gc n : Nat} {os : Array Obj} {d' : Array One} (HB : Below w.heap.size w wr) (hbase : w.heap.size ≤ g) (hgl : g < wr.heap.size)
    (HH : Sort.HoldsK One.enc 3 wr g 0 (onesTo ss ss.length).toArray) (h1 : (onesTo ss ss.length).length ≤ gc) (HP : Sort.PermIn 0 (onesTo ss ss.length).toArray.size (onesTo ss ss.length).toArray d')
    (HS : Sort.SortedIn (ltOf cf) 0 (onesTo ss ss.length).toArray.size d') : Newest ss w (.returned (.slice (some ⟨g, 0, none⟩) (onesTo ss ss.length).length gc)) (sortWorldK One.enc 3 wr g 0 n d' os) := by
  obtain ⟨p1, p2, p3⟩ := HP
  have hsz : d'.toList.length = (onesTo ss ss.length).length := by simpa using p1
  have hfull : ∀ a : Array One, (a.extract 0 a.size) = a := fun a => by simp
  rw [hfull, ← p1, hfull] at p3
  refine ⟨some ⟨g, 0, none⟩, gc, d'.toList, by rw [hsz], ?_, ?_, by rw [hsz]; exact onesTo_len _ _, by rw [hsz]; exact h1, ⟨by simpa using p3, ?_⟩, fun b off e => by cases e; exact hbase⟩
  · exact HB.grown (grownBy_put (w := wr) (g := g) (off := 0) (n := n) (os := os) (Sort.flatK One.enc 3 d')) HB.size (fun k hk => by cases hk; exact hbase)
  · have HF : Sort.HoldsK One.enc 3 (sortWorldK One.enc 3 wr g 0 n d' os) g 0 d' :=
      Sort.holdsK_grow One.enc 3 _ os g 0 d' (by simpa [Sort.putRowK, Sort.putRow, Sort.mapBlock, Sort.ahead] using hgl) (Sort.holdsK_putRowK One.enc 3 (Sort.ahead wr n) g 0 _ d' HH (by simpa using p1))
    unfold Sort.HoldsK at HF
    rw [flatK_toList] at HF
    refine fun hn => ⟨g, 0, rfl, ?_, fun i hi => ?_⟩
    · have : wr.heap.size ≤ (sortWorldK One.enc 3 wr g 0 n d' os).heap.size := (grownBy_put (w := wr) (g := g) (off := 0) (n := n) (os := os) (Sort.flatK One.enc 3 d')).size
      omega
    · have := (HF i (by simpa using hi)).1
      rw [this]
      simp [hi]
  · rw [List.pairwise_iff_getElem]
    intro i j hi hj hij
    have := HS i j (Nat.zero_le _) hij (by rw [hsz] at hj; simpa using hj)
    have ei : d'[i]! = d'.toList[i] := by simp at hi; simp [hi]
    have ej : d'[j]! = d'.toList[j] := by simp at hj; simp [hj]
    rw [ei, ej] at this
    exact this

theorem infoOne : (Tryd.prog.info? 57).map (fun i => (i.zero, i.size, i.bytes)) = some (some (.agg #[.int .i64 0, .string ByteArray.empty, .int .u32 0]), 3, 32) := by kernel_rfl

set_option maxHeartbeats 1000000 in
theorem newest_any (A : Option Addr) (cap : Nat) (ss : List ByteArray) (w : World) (hm : Mem w w.heap.size A (strs ss)) (hn : ss.length ≤ 1000) (hs : ∀ s ∈ ss, s.size ≤ maxLen) :
    Calls Tryd.prog 19 #[.slice A ss.length cap] w (Newest ss w) := by
  obtain ⟨i0, hi, hz0, hz1, hz2⟩ := info_parts infoOne
  have HM := hide hm
  have HS := hide hs
  clear hm hs
  go_enter Tryd.func19, Tryd.ntmps19
  go_wp2
  go_loopw [3, 4, 5, 6, 7, 10] (fun v _ _ _ _ i wr => ∃ k : Nat, k ≤ ss.length ∧ i = .int .i64 k ∧ wr.ownsRow w.heap.size 57 3 v (onesTo ss k).length (ones (onesTo ss k)) ∧ Below w.heap.size w wr) (fun _ _ _ _ _ i _ => ss.length - (intOf i).toNat)
  case atStart => exact ⟨0, Nat.zero_le _, rfl, ⟨by simp [onesTo, ones], .inl ⟨rfl, by simp [onesTo]⟩⟩, Below.refl _ _⟩
  case round =>
    obtain ⟨k, hk, rfl, hown, hB⟩ := hrel
    have HB := hide hB
    have HO := hide hown
    clear hB hown
    by_cases hlt : k < ss.length
    · obtain ⟨b, off, rfl, _, hc⟩ := (HM.out.below HB.out).get (by rw [strs_len]; omega)
      have hck := hc k (by rw [strs_len]; exact hlt)
      rw [strs_get ss k hlt] at hck
      clear hc
      have hN := stamp_any ss[k] wr (HS.out _ (List.getElem_mem _))
      have hAt : Pl.at_ (bss ss) k = ss[k].data.toList := by rw [Pl.at_get (by simp [bss]; exact hlt), bss_get ss k hlt]
      have hOne := onesTo_succ ss k
      unfold oneAt at hOne
      rw [hAt] at hOne
      generalize hh : Pl.has ss[k].data.toList = h at hN hOne
      generalize hst : Pl.st ss[k].data.toList = x at hN hOne
      have HN := hide hN
      have H1 := hide hOne
      clear hh hst hN hOne hAt
      cases h
      · go_wp2_with (go_at_call 8; refine HN.out.mono ?_; rintro e w1 ⟨rfl, hb⟩; have HB1 := hide hb; clear hb)
        go_roundw
        case rel =>
          have e1 : onesTo ss (k + 1) = onesTo ss k := by rw [H1.out]; simp
          refine ⟨k + 1, by omega, by go_num, ?_, HB.out.trans (HB1.out.mono HB.out.size)⟩
          rw [e1]
          exact owns_below HO.out HB1.out
        case measure => simp [intOf]; omega
      · have hw : (onesTo ss k).length ≤ k := onesTo_len ss k
        go_wp2_with (first | (go_at_call 8; refine HN.out.mono ?_; rintro e w1 ⟨rfl, hb⟩; have HB1 := hide hb; have HO1 := hide (owns_below HO.out hb); have hbase := Nat.le_trans HB.out.size hb.size; clear hb) | (at_builtin; refine wpList_append_own _ rfl _ _ 51 rfl w.heap.size 57 i0 (.agg #[.int .i64 0, .string ByteArray.empty, .int .u32 0]) 3 32 Tryd.underlying51 hi hz0 hz1 hz2 rfl (by decide) _ _ _ rfl (HO1.out.alloc _) ⟨w1.heap.size, 0, none⟩ 1 1 [.int .i64 k, .string ss[k], .int .u32 x] rfl rfl ?c1 ?c2 ?c3 ?c4 ?c5 ?_))
        case c1 => exact fun j u hu => new_cells w1 _ _ j u hu
        case c2 => exact one_enc_cell ⟨k, ss[k], x⟩
        case c3 => unfold maxLen; omega
        case c4 => omega
        case c5 => have : (w1.alloc (.cells #[.int .i64 k, .string ss[k], .int .u32 x] 57)).heap.size = w1.heap.size + 1 := by simp
                   omega
        intro v2 w2 hown2 hg2 _
        have HO2 := hide hown2
        have HG2 := hide hg2
        clear hown2 hg2
        go_wp2
        go_roundw
        case rel =>
          have e1 : onesTo ss (k + 1) = onesTo ss k ++ [⟨k, ss[k], x⟩] := by rw [H1.out]; simp [hlt]
          refine ⟨k + 1, by omega, by go_num, ?_, ?_⟩
          · rw [e1, ones_snoc, List.length_append]
            exact HO2.out
          · have hBw : Below w.heap.size w w1 := HB.out.trans (HB1.out.mono HB.out.size)
            refine (hBw.alloc hbase _).grown HG2.out (by simp; omega) fun g hg => ?_
            exact (HO1.out.lt g hg).1
        case measure => simp [intOf]; omega
    · obtain rfl : k = ss.length := by omega
      rcases HO.out.2 with ⟨rfl, h0⟩ | ⟨g, gc, cur, rfl, hbase, hb, h1, h2, h3, h4⟩
      · have HC := hide (AnyF.slices_SortFunc_none Tryd.sortOne none 0 (.func (.func 35) #[] #[]) wr)
        change Hid (Calls Tryd.prog 34 _ _ _) at HC
        have H0 := hide h0
        clear h0
        go_wp2_with (go_at_call 34; go_must (refine HC.out.mono ?_); rintro e w1 ⟨rfl, rfl⟩)
        go_ret
        have : onesTo ss ss.length = [] := List.eq_nil_of_length_eq_zero H0.out
        exact ⟨none, 0, [], rfl, HB.out, Mem.nil, by simp, by simp, ⟨by rw [this], List.Pairwise.nil⟩, fun b off e => by cases e⟩
      · have eg : ∀ args w, (callFunc 35 args).run Tryd.prog w = .ok (.enter 35 args) w := enters_of Tryd.func35 (by kernel_rfl) rfl
        have hgl : g < wr.heap.size := (Array.getElem?_eq_some_iff.1 hb).1
        have hlen := onesTo_len ss ss.length
        have hcon := AnyQ.slices_SortFunc Tryd.sortOne 3 Tryd.isAgg57 Tryd.sizeOf57 One.enc (fun _ => rfl) one_enc_cell cf swo 35 #[] g 0 gc (onesTo ss ss.length).toArray wr eg (cmpLays g 0 _ wr) (holds_ones HO.out) hgl (by simp; omega)
        change Calls Tryd.prog 34 #[.slice (some ⟨g, 0, none⟩) (onesTo ss ss.length).length gc, .func (.func 35) #[] #[]] _ _ at hcon
        have HC := hide hcon
        have HL := hide hlen
        have HH := hide (holds_ones HO.out)
        clear hcon hb h2 h3 h4 hlen
        go_wp2_with (go_at_call 34; refine HC.out.mono ?_; rintro e w1 ⟨rfl, d', n, os, hp, hso, rfl⟩; have HP := hide hp; have HSo := hide hso; clear hp hso)
        go_ret
        exact newest_end HB.out hbase hgl HH.out h1 HP.out HSo.out
end Go.Proofs.YtbajnkkekibdmaaDoor
