/- Walk of the iterator of periods: of each period its first one. -/
import Derived.Test.YtbajnkkekibdmaaDoorW8
import Derived.Test.YtbajnkkekibdmaaDoorRange
import Derived.Shelf.Abstract
import Derived.Shelf.RegionOpen
import Derived.OwnWalkIn
import Derived.TacticsInMore
import Derived.LoopNIn
import Derived.LoopIn
import Derived.Maps.OwnIn
import Derived.Maps.Views
namespace Go.Proofs.YtbajnkkekibdmaaDoor
open Go.RowKit Go.Shelf Go.Lib

/-- the period of one -/
def perO (sp : Int) (x : One) : Int := (x.at_ : Int) / sp
/-- of each period the first one -/
def perD (sp : Int) : List Int → List One → List One
  | _, [] => []
  | seen, x :: r => if perO sp x ∈ seen then perD sp seen r else x :: perD sp (perO sp x :: seen) r
def seenD (sp : Int) : List Int → List One → List Int
  | seen, [] => seen
  | seen, x :: r => if perO sp x ∈ seen then seenD sp seen r else seenD sp (perO sp x :: seen) r
theorem perD_append (sp : Int) (l : List One) : ∀ (seen : List Int) (r : List One), perD sp seen (l ++ r) = perD sp seen l ++ perD sp (seenD sp seen l) r := by
  induction l with
  | nil => intro seen r; rfl
  | cons x l ih =>
    intro seen r
    by_cases h : perO sp x ∈ seen
    · rw [List.cons_append, perD, if_pos h, perD, if_pos h, seenD, if_pos h, ih]
    · rw [List.cons_append, perD, if_neg h, perD, if_neg h, seenD, if_neg h, ih, List.cons_append]
theorem seenD_append (sp : Int) (l : List One) : ∀ (seen : List Int) (r : List One), seenD sp seen (l ++ r) = seenD sp (seenD sp seen l) r := by
  induction l with
  | nil => intro seen r; rfl
  | cons x l ih =>
    intro seen r
    by_cases h : perO sp x ∈ seen
    · rw [List.cons_append, seenD, if_pos h, seenD, if_pos h, ih]
    · rw [List.cons_append, seenD, if_neg h, seenD, if_neg h, ih]
theorem perD_prefix (sp : Int) (l r : List One) : perD sp [] l <+: perD sp [] (l ++ r) := ⟨_, (perD_append sp l [] r).symm⟩

theorem perD_one (sp : Int) (seen : List Int) (x : One) : perD sp seen [x] = if perO sp x ∈ seen then [] else [x] := rfl
theorem seenD_one (sp : Int) (seen : List Int) (x : One) : seenD sp seen [x] = if perO sp x ∈ seen then seen else perO sp x :: seen := rfl
theorem grown_cell {w w' : World} {row : Option Nat} {b : Nat} (hg : w.grownBy w' row) (hb : b < w.heap.size) (hne : some b ≠ row) (o : Nat) : w'.cell? ⟨b, o, none⟩ = w.cell? ⟨b, o, none⟩ := World.cell?_of_block (hg.block b hb hne)
theorem Mem.one {w : World} {B : Nat} {A : Option Addr} {l : List One} (h : Mem w B A (ones l)) (k : Nat) (hk : k < l.length) : ∃ b off, A = some ⟨b, off, none⟩ ∧ b < B ∧
    w.cell? ⟨b, off + k * 3, none⟩ = some (.int .i64 l[k].i) ∧ w.cell? ⟨b, off + k * 3 + 1, none⟩ = some (.string l[k].nm) ∧ w.cell? ⟨b, off + k * 3 + 2, none⟩ = some (.int .u32 l[k].at_) := by
  have hl := ones_len l
  obtain ⟨b, off, e, hb, hc⟩ := h.get (by omega)
  have g : ∀ c, c < 3 → w.cell? ⟨b, off + (k * 3 + c), none⟩ = (One.enc l[k])[c]? := fun c hc' => by
    rw [hc (k * 3 + c) (by omega), ← ones_get? l k c hk hc', List.getElem?_eq_getElem]
  exact ⟨b, off, e, hb, g 0 (by omega), g 1 (by omega), g 2 (by omega)⟩

/-- the map of the periods that were met -/
def MapIs (D : DataW Unit) (seen : List Int) : Prop := Maps.IsMap D ∧ ∀ q : Int, D.atKey (.int .u32 q) (.lit (.int .i64 0)) = .lit (.int .i64 (if q ∈ seen then 1 else 0))
theorem MapIs.start : MapIs (.map []) [] := ⟨Maps.isMap_empty, fun q => by simp [DataW.atKey]⟩
theorem MapIs.put {D : DataW Unit} {seen : List Int} (h : MapIs D seen) (q : Int) : MapIs (D.put (.int .u32 q) (.lit (.int .i64 1))) (q :: seen) := by
  refine ⟨h.1.put _ _, fun r => ?_⟩
  by_cases e : r = q
  · subst e
    rw [Maps.atKey_put_same h.1 (by simp [WideAt.IsKeyLit])]
    simp
  · rw [Maps.atKey_put_other (by simp [e]), h.2 r]
    simp [e]
theorem MapIs.zero {D : DataW Unit} {seen : List Int} (h : MapIs D seen) {q c : Int} (hc : D.atKey (.int .u32 q) (.lit (.int .i64 0)) = .lit (.int .i64 c)) : c = if q ∈ seen then 1 else 0 := by
  rw [h.2] at hc
  simpa using hc.symm

/-- what the iterator reads: as it was -/
structure Stays (W : World) (Bl Bs : Nat) (A : Option Addr) (len cap : Nat) (sp : Int) (xs : List Value) (wr : World) : Prop where
  list : wr.cell? ⟨Bl, 0, none⟩ = some (.slice A len cap)
  span : wr.cell? ⟨Bs, 0, none⟩ = some (.int .u32 sp)
  mem : Mem wr W.heap.size A xs
  size : W.heap.size < wr.heap.size
theorem Stays.kept {W wr w' : World} {Bl Bs : Nat} {A : Option Addr} {len cap : Nat} {sp : Int} {xs : List Value} {Ex : Nat → Prop} (h : Stays W Bl Bs A len cap sp xs wr) (hk : KeptX Ex wr w')
    (hbl : Bl < W.heap.size) (hbs : Bs < W.heap.size) (e1 : ¬ Ex Bl) (e2 : ¬ Ex Bs) (e3 : 0 < xs.length → ∀ b off, A = some ⟨b, off, none⟩ → ¬ Ex b) : Stays W Bl Bs A len cap sp xs w' := by
  have hs := h.size
  refine ⟨(hk.cell (by omega) e1 0).trans h.list, (hk.cell (by omega) e2 0).trans h.span, fun hn => ?_, Nat.lt_of_lt_of_le hs hk.size⟩
  obtain ⟨b, off, ha, hb, hc⟩ := h.mem hn
  exact ⟨b, off, ha, hb, fun i hi => (hk.cell (by omega) (e3 hn b off ha) _).trans (hc i hi)⟩
theorem Stays.below {W wr w' : World} {Bl Bs : Nat} {A : Option Addr} {len cap : Nat} {sp : Int} {xs : List Value} (h : Stays W Bl Bs A len cap sp xs wr) (hb : Below W.heap.size wr w') (hbl : Bl < W.heap.size) (hbs : Bs < W.heap.size) : Stays W Bl Bs A len cap sp xs w' :=
  ⟨(hb.cell (p := ⟨Bl, 0, none⟩) hbl).trans h.list, (hb.cell (p := ⟨Bs, 0, none⟩) hbs).trans h.span, h.mem.below hb, Nat.lt_of_lt_of_le h.size hb.size⟩

theorem perO_wf {sp : Int} {x : One} (h1 : x.at_ < 1000000000) (h2 : 0 < sp) : (Lit.int .u32 (perO sp x)).wf = true := by
  have h3 : perO sp x ≤ (x.at_ : Int) := Int.ediv_le_self _ (by omega)
  have h4 : 0 ≤ perO sp x := Int.ediv_nonneg (by omega) (by omega)
  exact WalkArith.wf_u32 ⟨h4, by omega⟩

set_option maxHeartbeats 2000000 in
set_option maxRecDepth 100000 in
theorem iter_in (m l Bl Bs : Nat) (A : Option Addr) (d : List One) (cap : Nat) (sp : Int) (Ex : Nat → Prop) (J Jx : List One → World → Prop) (W : World)
    (hbl : Bl < W.heap.size) (hbs : Bs < W.heap.size) (cl : W.cell? ⟨Bl, 0, none⟩ = some (.slice A d.length cap)) (cs : W.cell? ⟨Bs, 0, none⟩ = some (.int .u32 sp)) (hm : Mem W W.heap.size A (ones d)) (hd : d.length ≤ 1000)
    (hat : ∀ x ∈ d, x.at_ < 1000000000) (hsp0 : 0 < sp) (hsp : sp < 4294967296)
    (e1 : ¬ Ex Bl) (e2 : ¬ Ex Bs) (e3 : 0 < (ones d).length → ∀ b off, A = some ⟨b, off, none⟩ → ¬ Ex b) (e4 : ∀ k, W.heap.size ≤ k → ¬ Ex k)
    (hJ : AbidesAll W.heap.size J) (_hJx : AbidesAll W.heap.size Jx)
    (hY : ∀ pre x W1, J pre W1 → (pre ++ [x]) <+: perD sp [] d → YieldAt Fence.wide (m - 1) Tryd.prog l #[.agg #[.int .i64 x.i, .string x.nm, .int .u32 x.at_]] W1 (fun e W' =>
      (e = .returned (.bool true) ∧ J (pre ++ [x]) W' ∧ KeptX Ex W1 W') ∨ (e = .returned (.bool false) ∧ Jx (pre ++ [x]) W'))) (h0 : J [] W) :
    CallsIn Fence.wide m Tryd.prog 39 #[.func (.yield l) #[] #[], .pointer (some ⟨Bl, 0, none⟩), .pointer (some ⟨Bs, 0, none⟩)] W fun e W' =>
      (∃ v, e = .returned v) ∧ (J (perD sp [] d) W' ∨ ∃ pre, pre <+: perD sp [] d ∧ Jx pre W') := by
  have hmm := @run_makeMap Tryd.prog
  have HY := hide hY
  have HJ := hide hJ
  have HM := hide hm
  have HAT := hide hat
  have H0 := hide h0
  have E3 := hide e3
  have E4 := hide e4
  clear hY hJ hm hat h0 e3 e4
  refine callsIn_of_wp Tryd.func39 rfl trivial ?_ rfl
  simp only [Tryd.ntmps39, List.size_toArray, List.length_cons, List.length_nil, Nat.reduceAdd, Nat.reduceSub, Array.replicate_succ, Array.replicate_zero, List.push_toArray, List.append_toArray, List.nil_append, List.cons_append]
  gi_wp2
  gi_loopw [11] (fun i wr => ∃ k : Nat, k ≤ d.length ∧ i = .int .i64 k ∧ J (perD sp [] (d.take k)) wr ∧ (∃ D, wr.ownsMap Tryd.prog 28 (plainElem Tryd.prog 3) W.heap.size k D ∧ MapIs D (seenD sp [] (d.take k))) ∧ Stays W Bl Bs A d.length cap sp (ones d) wr)
    (fun i _ => d.length - (intOf i).toNat)
  case atStart =>
    refine ⟨0, Nat.zero_le _, rfl, ?_, ⟨_, World.ownsMap_made _ _ _ _, MapIs.start⟩, ?_⟩
    · exact HJ.out _ _ _ H0.out ((Below.refl _ _).alloc (Nat.le_refl _) _)
    · refine ⟨((Below.refl W.heap.size W).alloc (Nat.le_refl _) _).cell (p := ⟨Bl, 0, none⟩) hbl |>.trans cl, ((Below.refl W.heap.size W).alloc (Nat.le_refl _) _).cell (p := ⟨Bs, 0, none⟩) hbs |>.trans cs, HM.out.below ((Below.refl _ _).alloc (Nat.le_refl _) _), by simp⟩
  case round =>
    obtain ⟨k, hk, rfl, hj, ⟨D, hown, hD⟩, hst⟩ := hrel
    have Hj := hide hj
    have HO := hide hown
    have HD := hide hD
    have HS := hide hst
    have hws := hst.size
    clear hj hown hD hst cl cs
    by_cases hlt : k < d.length
    · obtain ⟨b, off, rfl, hb, c0, c1, c2⟩ := HS.out.mem.one k hlt
      have csp := HS.out.span
      have hbs' : Bs < wr.heap.size := by omega
      have hb' : b < wr.heap.size := by omega
      have hatk := HAT.out _ (List.getElem_mem hlt)
      have htk : d.take (k + 1) = d.take k ++ [d[k]] := by rw [List.take_succ_eq_append_getElem hlt]
      have hsplit : d.take (k + 1) ++ d.drop (k + 1) = d := List.take_append_drop _ _
      generalize hx : d[k] = x at c0 c1 c2 hatk htk
      obtain ⟨xi, xn, xa⟩ := x
      dsimp only at c0 c1 c2 hatk
      have hwf := perO_wf (x := ⟨xi, xn, xa⟩) hatk hsp0
      have hPA : perD sp [] (d.take (k + 1)) = perD sp [] (d.take k) ++ (if (xa : Int) / sp ∈ seenD sp [] (d.take k) then [] else [⟨xi, xn, xa⟩]) := by rw [htk, perD_append, perD_one]; rfl
      have hSA : seenD sp [] (d.take (k + 1)) = (if (xa : Int) / sp ∈ seenD sp [] (d.take k) then seenD sp [] (d.take k) else (xa : Int) / sp :: seenD sp [] (d.take k)) := by rw [htk, seenD_append, seenD_one]; rfl
      have hPre : perD sp [] (d.take (k + 1)) <+: perD sp [] d := by
        conv => rhs; rw [← hsplit]
        exact perD_prefix sp _ _
      change (Lit.int .u32 ((xa : Int) / sp)).wf = true at hwf
      have hdv0 : 0 ≤ (xa : Int) / sp := Int.ediv_nonneg (by omega) (by omega)
      have hdv1 : (xa : Int) / sp ≤ 4294967295 := Int.le_trans (Int.ediv_le_self _ (by omega)) (by omega)
      have HWF := hide hwf
      have HTK := hide htk
      have HPre := hide hPre
      clear htk hsplit hx hPre hwf
      have hrow := (HO.out.alloc (.cells #[.int .i64 xi, .string xn, .int .u32 xa] 57))
      have HOA := hide hrow
      clear hrow
      by_cases hin : (xa : Int) / sp ∈ seenD sp [] (d.take k)
      · rw [if_pos hin] at hPA hSA
        have HPA := hide hPA
        have HSA := hide hSA
        have HIN := hide hin
        clear hPA hSA hin
        gi_wp2_with (gi_at_lookup; refine wpListIn_lookup_own_int _ rfl _ _ 78 rfl 28 3 .i64 (Maps.int_keyed Tryd.underlying28) Tryd.underlying78 Tryd.underlying3 (Tryd.zeroValue3 _) W.heap.size k _ rfl HOA.out _ _ rfl (Maps.keyOf_int_mk Tryd.underlying28 HWF.out) ?_; intro c hat hwc; have hc1 := HD.out.zero hat; rw [if_pos HIN.out] at hc1; subst hc1; clear hat hwc)
        go_roundw
        case rel =>
          have hba : Below W.heap.size wr (wr.alloc (.cells #[.int .i64 xi, .string xn, .int .u32 xa] 57)) := (Below.refl _ _).alloc (by omega) _
          refine ⟨k + 1, by omega, by go_num, ?_, ⟨D, HOA.out.mono (by omega), ?_⟩, HS.out.below hba hbl hbs⟩
          · have e : perD sp [] (d.take (k + 1)) = perD sp [] (d.take k) := by rw [HPA.out]; simp
            rw [e]
            exact HJ.out _ _ _ Hj.out hba
          · rw [HSA.out]; exact HD.out
        case measure => simp [intOf]; omega
      · rw [if_neg hin] at hPA hSA
        have HPA := hide hPA
        have HSA := hide hSA
        have HIN := hide hin
        clear hPA hSA hin
        gi_wp2_with (first | (gi_at_lookup; refine wpListIn_lookup_own_int _ rfl _ _ 78 rfl 28 3 .i64 (Maps.int_keyed Tryd.underlying28) Tryd.underlying78 Tryd.underlying3 (Tryd.zeroValue3 _) W.heap.size k _ rfl HOA.out _ _ rfl (Maps.keyOf_int_mk Tryd.underlying28 HWF.out) ?_; intro c hat hwc; have hc1 := HD.out.zero hat; rw [if_neg HIN.out] at hc1; subst hc1; clear hat hwc) | (gi_at_mapUpdate; refine wpListIn_mapUpdate_own _ rfl _ _ _ 78 rfl 28 3 (Maps.int_keyed Tryd.underlying28) Tryd.underlying78 _ W.heap.size k _ rfl HOA.out (by unfold maxLen; omega) _ _ _ rfl rfl (Maps.keyOf_int_mk Tryd.underlying28 HWF.out) _ [] (plainElem_int Tryd.underlying3 (WalkArith.wf_i64 (by omega))) ?_; intro w1 hown1 hgrow1; have HO1 := hide hown1; have f0 := (grown_cell hgrow1 (b := wr.heap.size) (by simp) (by simp; omega) 0).trans (cell_new wr _ _ 0); have f1 := (grown_cell hgrow1 (b := wr.heap.size) (by simp) (by simp; omega) 1).trans (cell_new wr _ _ 1); have f2 := (grown_cell hgrow1 (b := wr.heap.size) (by simp) (by simp; omega) 2).trans (cell_new wr _ _ 2); have HB1 : Hid (Below W.heap.size wr w1) := hide ((((Below.refl _ _).alloc (by omega) _).grown hgrow1 (by simp; omega) (fun j hj => by cases hj; exact Nat.le_refl _))); clear hown1 hgrow1; obtain ⟨fn, tmps, assign, body, hy, hR⟩ := HY.out (perD sp [] (d.take k)) ⟨xi, xn, xa⟩ w1 (HJ.out _ _ _ Hj.out HB1.out) (by rw [← HPA.out]; exact HPre.out); have HR := hide hR; clear hR))
        refine ⟨fun h => (by cases h), HR.out.mono ?_⟩
        rintro e W2 (⟨rfl, hJ2, hk2⟩ | ⟨rfl, hJx2⟩)
        · have HJ2 := hide hJ2
          have HK2 := hide hk2
          clear hJ2 hk2
          gi_wp2
          go_roundw
          case rel =>
            have hsz : W.heap.size < w1.heap.size := Nat.lt_of_lt_of_le hws HB1.out.size
            have hst1 := HS.out.below HB1.out hbl hbs
            refine ⟨k + 1, by omega, by go_num, ?_, ⟨D.put (.int .u32 ((xa : Int) / sp)) (.lit (.int .i64 1)), ?_, ?_⟩, hst1.kept HK2.out hbl hbs e1 e2 E3.out⟩
            · rw [HPA.out]; exact HJ2.out
            · obtain ⟨es, clock, q1, q2, q3, q4⟩ := HO1.out
              exact ⟨es, clock, (HK2.out.2 _ hsz (E4.out _ (Nat.le_refl _))).trans q1, q2, q3, q4⟩
            · rw [HSA.out]; exact HD.out.put _
          case measure => simp [intOf]; omega
        · have HJx2 := hide hJx2
          clear hJx2
          gi_wp2
          refine bodyPost_ret (results_none rfl _ _ _) rfl ?_
          exact ⟨⟨_, rfl⟩, .inr ⟨_, by rw [HPA.out] at HPre; exact HPre.out, HJx2.out⟩⟩
    · obtain rfl : k = d.length := by omega
      gi_wp2
      go_end0
      refine ⟨⟨_, rfl⟩, .inl ?_⟩
      have := Hj.out
      rwa [List.take_length] at this

set_option maxHeartbeats 400000 in
theorem periods_any (A : Option Addr) (n cap : Nat) (sp : Int) (w : World) :
    Calls Tryd.prog 20 #[.slice A n cap, .int .u32 sp] w fun e w' => e = .returned (.func (.func 39) #[] #[.pointer (some ⟨w.heap.size, 0, none⟩), .pointer (some ⟨w.heap.size + 1, 0, none⟩)]) ∧
      (w.alloc (.cells #[.slice A n cap] 51)).alloc (.cells #[.int .u32 sp] 28) = w' := by
  go_enter Tryd.func20, Tryd.ntmps20
  go_wp2
  go_ret
  exact ⟨rfl, rfl⟩
end Go.Proofs.YtbajnkkekibdmaaDoor
