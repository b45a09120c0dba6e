/- Walks of the document's opener. Walks of the document's opener: Take of two bytes; the document's Take. Walk of the document's book of bytes: Take. Walk of the law: do the document's book and the package's say the same? Walk of the law KeepTakes. -/
import Derived.Test.YtokibbgahefkbaaGreatDoorQ4
import Derived.Laws.DeepStrings4
import Derived.Test.YtokibbgahefkbaaGreatDoorQ3
set_option linter.all false
namespace Go.Proofs.YtokibbgahefkbaaGreatDoor.Fe
open Go.RowKit Go.Shelf

def opnV (s : ByteArray) (bad : Bool) : Value := .agg #[.string s, .bool bad]
theorem opnInfo : (Tryz.prog.info? 74).map (·.size) = some 2 := by kernel_rfl
theorem Whole.rangeR {w : World} {b : Nat} {t : TypeId} {cs : List Value} (h : Whole w b t cs) : w.rangeAt b 0 cs := fun j v hv => by rw [Nat.zero_add, h.cell]; exact hv
theorem results_tmp_cell {fn : Func} {p u : Tmp} {ty : TypeId} (h : fn.results = #[.tmp u, .cell p ty]) (tmps : Array Value) (P : Program) (w : World) :
    (results fn tmps).run P w = ((asAddr (tmps.getD p undef)).run P w).andThen fun a w₁ => ((loadVar ty a).run P w₁).andThen fun v w₂ => .ok (.tuple #[tmps.getD u undef, v]) w₂ := by
  simp only [results, h]
  simp [Sem.run_bind, Result.andThen]
/-- an opener is given back out of its cell -/
theorem ret_opn {fn : Func} {p u : Tmp} (h : fn.results = #[.tmp u, .cell p 74]) (tmps : Array Value) (w : World) (g : Nat) (s : ByteArray) (b : Bool) (hp : tmps.getD p undef = .pointer (some ⟨g, 0, none⟩)) (hw : Whole w g 74 [.string s, .bool b]) :
    (results fn tmps).run Tryz.prog w = .ok (.tuple #[tmps.getD u undef, opnV s b]) w := by
  rw [results_tmp_cell h, hp]
  simp [asAddr, run_loadVar_mid w g 0 74 [.string s, .bool b] _ hw.rangeR Tryz.underlying74 rfl opnInfo, Result.andThen, opnV]
theorem nums_get (xs : List Int) (hx : Byt xs) (j : Nat) (h : j < xs.length) (h2 : j < (strOfNums xs).size) : (((strOfNums xs)[j]'h2).toNat : Int) = xs[j] := by
  have h1 : (strOfNums xs)[j]'h2 = UInt8.ofNat (xs[j]).toNat := by
    rw [← get_list (strOfNums xs) j h2]
    simp only [strOfNums_data, List.getElem_map]
  rw [h1]
  have := hx xs[j] (List.getElem_mem h)
  simp only [UInt8.toNat_ofNat']
  omega
set_option maxHeartbeats 2000000 in
set_option maxRecDepth 20000 in
theorem rvalue_any (xs : List Int) (hx : Byt xs) (hl : xs.length ≤ 2) (w : World) :
    Calls Tryz.prog 65 #[.string (strOfNums xs)] w fun e w' => e = .returned (.int .u64 (Pl.un xs)) ∧ w = w' := by
  have hsz : (strOfNums xs).size = xs.length := ofNums_size xs
  have HX := hide hx
  clear hx
  go_enter Tryz.func65, Tryz.ntmps65
  go_upto_region 3 with fail
  go_loopw [3, 4] (fun x y wr => ∃ j : Nat, j ≤ xs.length ∧ y = .int .i64 j ∧ x = .int .u64 (Pl.un (xs.take j)) ∧ w = wr) (fun _ y _ => xs.length - (Go.RowKit.intOf y).toNat)
  case atStart => exact ⟨0, Nat.zero_le _, rfl, rfl, rfl⟩
  case round =>
    obtain ⟨j, hj, rfl, rfl, rfl⟩ := hrel
    by_cases hlt : j < xs.length
    · have hls : j < (strOfNums xs).size := by omega
      have HNx := hide (show IntKind.u64.wrap (IntKind.u64.wrap (Pl.un (xs.take j) * 256) + IntKind.u64.wrap (((strOfNums xs)[j]'hls).toNat : Int)) = Pl.un (xs.take (j + 1)) from by
        have h1 := Pl.un_bound (xs.take j) (fun x h => HX.out x (List.mem_of_mem_take h))
        have h2 := HX.out xs[j] (List.getElem_mem hlt)
        rw [nums_get xs HX.out j hlt hls, List.take_succ_eq_append_getElem hlt, Pl.un_snoc]
        have h3 : (xs.take j).length ≤ 1 := by rw [List.length_take]; omega
        have h4 : (256 : Int) ^ (xs.take j).length ≤ 256 := by
          rcases Nat.le_one_iff_eq_zero_or_eq_one.1 h3 with h | h <;> rw [h] <;> decide
        rw [IntKind.wrap_u64, IntKind.wrap_u64, IntKind.wrap_u64]
        omega)
      go_wp2_with fail
      go_roundw
      case rel => exact ⟨j + 1, by omega, by go_num, by rw [HNx.out], by trivial⟩
      case measure => (try simp [Go.RowKit.intOf]); omega
    · obtain rfl : j = xs.length := by omega
      have HE := hide (show Pl.un (xs.take xs.length) = Pl.un xs by rw [List.take_length])
      have hls : ¬ xs.length < (strOfNums xs).size := by omega
      go_wp2_with fail
      go_ret
      exact ⟨by rw [← HE.out]; rfl, rfl⟩
/-- Opener.Name: a text, and the opener behind it -/
def RNameQ (s : ByteArray) (bad : Bool) (w : World) (e : Ending) (w' : World) : Prop := Below w.heap.size w w' ∧ ((bad = false ∧ ∃ k r, nameL (nS s) = some (k, r) ∧ e = .returned (.tuple #[.string (strOfNums k), opnV (strOfNums r) false])) ∨ ((bad = true ∨ nameL (nS s) = none) ∧ e = .returned (.tuple #[.string ByteArray.empty, opnV s true])))
theorem opn_new (w : World) (s : ByteArray) (b : Bool) (s2 : ByteArray) (b2 : Bool) : Below w.heap.size w ((w.alloc (.cells #[.string s, .bool b] 74)).alloc (.cells #[.string s2, .bool b2] 74)) ∧
    Whole ((w.alloc (.cells #[.string s, .bool b] 74)).alloc (.cells #[.string s2, .bool b2] 74)) w.heap.size 74 [.string s, .bool b] ∧
    Whole ((w.alloc (.cells #[.string s, .bool b] 74)).alloc (.cells #[.string s2, .bool b2] 74)) (w.heap.size + 1) 74 [.string s2, .bool b2] := by
  have hz : (w.alloc (.cells #[.string s, .bool b] 74)).heap.size = w.heap.size + 1 := by simp
  have h2 := Whole.new (w.alloc (.cells #[.string s, .bool b] 74)) [.string s2, .bool b2] 74
  rw [hz] at h2
  have hb : Below (w.heap.size + 1) (w.alloc (.cells #[.string s, .bool b] 74)) ((w.alloc (.cells #[.string s, .bool b] 74)).alloc (.cells #[.string s2, .bool b2] 74)) := (Below.refl _ _).alloc (by omega) _
  exact ⟨((Below.refl _ _).alloc (Nat.le_refl _) _).alloc (by simp) _, (Whole.new w [.string s, .bool b] _).below hb (by omega), h2⟩
theorem opn_set {w w2 : World} {s s2 : ByteArray} {b b2 : Bool} {n : Nat} (h : Whole w2 (w.heap.size + 1) 74 [.string s, .bool b]) (_ : Unit) : Whole (((w2.drewN n).setCell ⟨w.heap.size + 1, 0, none⟩ (.string s2)).setCell ⟨w.heap.size + 1, 1, none⟩ (.bool b2)) (w.heap.size + 1) 74 [.string s2, .bool b2] := by
  have h0 : Whole (w2.drewN n) (w.heap.size + 1) 74 [.string s, .bool b] := h
  exact (h0.set_ 0 (.string s2)).set_ 1 (.bool b2)
theorem opn_bel {w w2 : World} {u v : Value} {n : Nat} (h : Below w.heap.size w w2) (_ : Unit) : Below w.heap.size w (((w2.drewN n).setCell ⟨w.heap.size + 1, 0, none⟩ u).setCell ⟨w.heap.size + 1, 1, none⟩ v) :=
  ((show Below w.heap.size w (w2.drewN n) from ⟨h.os, h.tape, h.output, h.size, h.block⟩).setCell (p := ⟨w.heap.size + 1, 0, none⟩) (Nat.le_succ _) u).setCell (p := ⟨w.heap.size + 1, 1, none⟩) (Nat.le_succ _) v
theorem nS_head {s : ByteArray} {x : Int} {r : List Int} (h : nS s = x :: r) (hp : 0 < s.size) : (s[0].toNat : Int) = x := by
  have h1 : (nS s)[0]? = some x := by rw [h]; rfl
  unfold nS at h1
  rw [List.getElem?_map, List.getElem?_eq_getElem (by rw [size_list]; exact hp), get_list s 0 hp] at h1
  exact Option.some.inj h1
theorem nS_extract (s : ByteArray) (a b : Nat) : nS (s.extract a b) = ((nS s).take b).drop a := by
  unfold nS
  rw [ByteArray.data_extract, Array.toList_extract, List.extract_eq_take_drop]
  simp [List.map_drop, List.map_take, List.drop_take]
set_option maxHeartbeats 4000000 in
set_option maxRecDepth 20000 in
theorem rname_any2 (s : ByteArray) (bad : Bool) (w : World) (hs : s.size ≤ 100000) :
    Calls Tryz.prog 30 #[opnV s bad] w (RNameQ s bad w) := by
  obtain ⟨hb2, h1, h2⟩ := opn_new w s bad ⟨#[]⟩ false
  have c0 := h1.cell 0
  have c1 := h1.cell 1
  have r0 := h2.cell 0
  have r1 := h2.cell 1
  have f0 := h2.frozen 0
  have f1 := h2.frozen 1
  simp only [List.getElem?_cons_zero, List.getElem?_cons_succ] at c0 c1 r0 r1
  have HB := hide hb2
  have HW := hide h2
  clear hb2 h1 h2
  unfold opnV
  by_cases hbad : bad = true ∨ nameL (nS s) = none
  · have HBad := hide hbad
    go_enter Tryz.func30, Tryz.ntmps30
    go_wp2_with fail
    generalize (w.alloc (.cells #[.string s, .bool bad] 74)).alloc (.cells #[.string ⟨#[]⟩, .bool false] 74) = w2 at *
    cases bad with
    | true =>
      go_quiet (fail)
      go_wp2_with fail
      go_region
      all_goals
        go_wp2_with fail
        exact bodyPost_ret (v := .tuple #[.string ⟨#[]⟩, opnV s true]) (ret_opn Tryz.results30 _ _ (w.heap.size + 1) s true rfl (opn_set HW.out ())) rfl ⟨opn_bel HB.out (), .inr ⟨.inl rfl, rfl⟩⟩
    | false =>
      have hno := hbad.resolve_left (by simp)
      cases hns : nS s with
      | nil =>
        have h0 : s.size = 0 := by rw [← nS_len, hns]; rfl
        clear hbad hno hns
        go_quiet (fail)
        go_wp2_with fail
        go_region
        all_goals
          go_wp2_with fail
          exact bodyPost_ret (v := .tuple #[.string ⟨#[]⟩, opnV s true]) (ret_opn Tryz.results30 _ _ (w.heap.size + 1) s true rfl (opn_set HW.out ())) rfl ⟨opn_bel HB.out (), .inr ⟨HBad.out, rfl⟩⟩
      | cons x r =>
        have hl : s.size = r.length + 1 := by rw [← nS_len, hns]; rfl
        have h0 : ¬ s.size = 0 := by omega
        have hp : 0 < s.size := by omega
        have hx := nS_head hns hp
        have hfar : r.length < x.toNat := by
          rw [hns] at hno
          have hno : (if x.toNat ≤ r.length then some (r.take x.toNat, r.drop x.toNat) else none) = none := hno
          by_cases h : x.toNat ≤ r.length
          · rw [if_pos h] at hno; cases hno
          · omega
        have hb := s[0].toNat_lt
        have hw1 : IntKind.i64.wrap ((s[0].toNat : Nat) : Int) = (s[0].toNat : Int) := IntWalk.i64_in _ (by omega)
        have hw2 : IntKind.i64.wrap ((s.size : Int) - 1) = (s.size : Int) - 1 := IntWalk.i64_in _ (by omega)
        have hc : (s.size : Int) - 1 < (s[0].toNat : Int) := by omega
        have hb0 : ((s.size : Int) == 0) = false := beq_false_of_ne (by omega)
        clear hbad hno hns hl hfar hx
        go_quiet (fail)
        go_wp2_with fail
        go_region
        all_goals
          go_wp2_with fail
          exact bodyPost_ret (v := .tuple #[.string ⟨#[]⟩, opnV s true]) (ret_opn Tryz.results30 _ _ (w.heap.size + 1) s true rfl (opn_set HW.out ())) rfl ⟨opn_bel HB.out (), .inr ⟨HBad.out, rfl⟩⟩
  · have hbf : bad = false := by cases bad with
      | false => rfl
      | true => exact absurd (.inl rfl) hbad
    subst hbf
    cases hns : nS s with
    | nil => exact absurd (.inr (by rw [hns]; rfl)) hbad
    | cons x r =>
      have hl : s.size = r.length + 1 := by rw [← nS_len, hns]; rfl
      have h0 : ¬ s.size = 0 := by omega
      have hp : 0 < s.size := by omega
      have hx := nS_head hns hp
      have hle : x.toNat ≤ r.length := by
        by_cases h : x.toNat ≤ r.length
        · exact h
        · refine absurd (.inr ?_) hbad
          rw [hns]
          show (if x.toNat ≤ r.length then some (r.take x.toNat, r.drop x.toNat) else none) = none
          rw [if_neg h]
      have HNm := hide (show nameL (nS s) = some (r.take x.toNat, r.drop x.toNat) by
        rw [hns]
        show (if x.toNat ≤ r.length then some (r.take x.toNat, r.drop x.toNat) else none) = _
        rw [if_pos hle])
      have hb := s[0].toNat_lt
      obtain ⟨n, hn⟩ : ∃ n : Nat, n = s[0].toNat := ⟨_, rfl⟩
      obtain ⟨m, hm⟩ : ∃ m : Nat, m = 1 + n := ⟨_, rfl⟩
      have HK := hide (show s.extract 1 m = strOfNums (r.take x.toNat) from nS_inj (by
        rw [nS_extract, nS_of (fun y hy => nS_byt s y (by rw [hns]; exact List.mem_cons_of_mem _ (List.mem_of_mem_take hy))), hns, show m = x.toNat + 1 by omega]
        rfl))
      have HRr := hide (show s.extract m s.size = strOfNums (r.drop x.toNat) from nS_inj (by
        rw [nS_extract, nS_of (fun y hy => nS_byt s y (by rw [hns]; exact List.mem_cons_of_mem _ (List.mem_of_mem_drop hy))), List.take_of_length_le (by rw [nS_len]; exact Nat.le_refl _), hns, show m = x.toNat + 1 by omega]
        rfl))
      have hw1 : IntKind.i64.wrap ((s[0].toNat : Nat) : Int) = (n : Int) := by rw [IntWalk.i64_in _ (by omega), hn]
      have hw2 : IntKind.i64.wrap ((s.size : Int) - 1) = (s.size : Int) - 1 := IntWalk.i64_in _ (by omega)
      have hw3 : IntKind.i64.wrap (1 + (n : Int)) = (m : Int) := by rw [IntWalk.i64_in _ (by omega), hm]; rfl
      have hc : ¬ (s.size : Int) - 1 < (n : Int) := by omega
      have hd1 : 1 ≤ m := by omega
      have hd0 : 0 < m := by omega
      have hd2 : m ≤ s.size := by omega
      have hb0 : ((s.size : Int) == 0) = false := beq_false_of_ne (by omega)
      clear hbad hns hx hle hl
      clear hm hn
      go_enter Tryz.func30, Tryz.ntmps30
      go_wp2_with fail
      generalize (w.alloc (.cells #[.string s, .bool false] 74)).alloc (.cells #[.string ⟨#[]⟩, .bool false] 74) = w2 at *
      go_quiet (fail)
      go_wp2_with fail
      go_region
      all_goals
        go_wp2_with fail
        exact bodyPost_ret (v := .tuple #[.string (s.extract 1 m), opnV (s.extract m s.size) false]) (ret_opn Tryz.results30 _ _ (w.heap.size + 1) (s.extract m s.size) false rfl (opn_set HW.out ())) rfl ⟨opn_bel HB.out (), .inl ⟨rfl, _, _, HNm.out, by rw [HK.out, HRr.out]⟩⟩
/-- Opener.Text: the first n bytes, and the opener behind them -/
def RTextQ (s : ByteArray) (bad : Bool) (n : Nat) (w : World) (e : Ending) (w' : World) : Prop := Below w.heap.size w w' ∧ ((bad = false ∧ n ≤ s.size ∧ e = .returned (.tuple #[.string (s.extract 0 n), opnV (s.extract n s.size) false])) ∨ ((bad = true ∨ s.size < n) ∧ e = .returned (.tuple #[.string ByteArray.empty, opnV s true])))
set_option maxHeartbeats 4000000 in
set_option maxRecDepth 20000 in
theorem rtext_any (s : ByteArray) (bad : Bool) (n : Nat) (w : World) (hs : s.size ≤ 100000) (hn : n ≤ 100000) :
    Calls Tryz.prog 64 #[opnV s bad, .int .i64 (n : Int)] w (RTextQ s bad n w) := by
  obtain ⟨hb2, h1, h2⟩ := opn_new w s bad ⟨#[]⟩ false
  have c0 := h1.cell 0
  have c1 := h1.cell 1
  have r0 := h2.cell 0
  have r1 := h2.cell 1
  have f0 := h2.frozen 0
  have f1 := h2.frozen 1
  simp only [List.getElem?_cons_zero, List.getElem?_cons_succ] at c0 c1 r0 r1
  have HB := hide hb2
  have HW := hide h2
  clear hb2 h1 h2
  unfold opnV
  have hn0 : ¬ (n : Int) < 0 := by omega
  go_enter Tryz.func64, Tryz.ntmps64
  go_upto_region 1 with fail
  generalize (w.alloc (.cells #[.string s, .bool bad] 74)).alloc (.cells #[.string ⟨#[]⟩, .bool false] 74) = w2 at *
  cases bad with
  | true =>
    go_wp2_with fail
    go_region
    all_goals
      go_wp2_with fail
      exact bodyPost_ret (v := .tuple #[.string ⟨#[]⟩, opnV s true]) (ret_opn Tryz.results64 _ _ (w.heap.size + 1) s true rfl (opn_set (n := 1) HW.out ())) rfl ⟨opn_bel (n := 1) HB.out (), .inr ⟨.inl rfl, rfl⟩⟩
  | false =>
    by_cases hlt : s.size < n
    · have HLt := hide hlt
      have hc : (s.size : Int) < (n : Int) := by omega
      clear hlt
      go_wp2_with fail
      go_region
      all_goals
        go_wp2_with fail
        exact bodyPost_ret (v := .tuple #[.string ⟨#[]⟩, opnV s true]) (ret_opn Tryz.results64 _ _ (w.heap.size + 1) s true rfl (opn_set (n := 1) HW.out ())) rfl ⟨opn_bel (n := 1) HB.out (), .inr ⟨.inr HLt.out, rfl⟩⟩
    · have HLt := hide (show n ≤ s.size by omega)
      have hc : ¬ (s.size : Int) < (n : Int) := by omega
      have hd2 : n ≤ s.size := HLt.out
      go_wp2_with fail
      go_region
      all_goals
        go_wp2_with fail
        exact bodyPost_ret (v := .tuple #[.string (s.extract 0 n), opnV (s.extract n s.size) false]) (ret_opn Tryz.results64 _ _ (w.heap.size + 1) (s.extract n s.size) false rfl (opn_set (n := 1) HW.out ())) rfl ⟨opn_bel (n := 1) HB.out (), .inl ⟨rfl, HLt.out, rfl⟩⟩
end Go.Proofs.YtokibbgahefkbaaGreatDoor.Fe
namespace Go.Proofs.YtokibbgahefkbaaGreatDoor.Fe
open Go.RowKit Go.Shelf

def RTakeQ (s : ByteArray) (bad : Bool) (w : World) (e : Ending) (w' : World) : Prop := Below w.heap.size w w' ∧ ((bad = false ∧ 2 ≤ s.size ∧ e = .returned (.tuple #[.int .u64 (Pl.un ((nS s).take 2)), opnV (strOfNums ((nS s).drop 2)) false])) ∨ ((bad = true ∨ s.size < 2) ∧ e = .returned (.tuple #[.int .u64 0, opnV s true])))
theorem nS_byts (s : ByteArray) : Byt (nS s) := fun y hy => nS_byt s y hy
theorem rtake_u {s : ByteArray} {bad : Bool} {w w' w2 : World} {e : Ending} (h : RTextQ s bad 2 w2 e w') : ∃ xs s' b', e = .returned (.tuple #[.string (strOfNums xs), opnV s' b']) ∧ Byt xs ∧ xs.length ≤ 2 ∧ ((bad = false ∧ 2 ≤ s.size ∧ Ending.returned (.tuple #[.int .u64 (Pl.un xs), opnV s' b']) = .returned (.tuple #[.int .u64 (Pl.un ((nS s).take 2)), opnV (strOfNums ((nS s).drop 2)) false])) ∨ ((bad = true ∨ s.size < 2) ∧ Ending.returned (.tuple #[.int .u64 (Pl.un xs), opnV s' b']) = .returned (.tuple #[.int .u64 0, opnV s true]))) := by
  obtain ⟨_, ⟨h1, h2, rfl⟩ | ⟨h1, rfl⟩⟩ := h
  · have hb : Byt ((nS s).take 2) := fun y hy => nS_byts s y (List.mem_of_mem_take hy)
    have hb2 : Byt ((nS s).drop 2) := fun y hy => nS_byts s y (List.mem_of_mem_drop hy)
    have e1 : s.extract 0 2 = strOfNums ((nS s).take 2) := nS_inj (by rw [nS_extract, nS_of hb]; rfl)
    have e2 : s.extract 2 s.size = strOfNums ((nS s).drop 2) := nS_inj (by rw [nS_extract, nS_of hb2, List.take_of_length_le (by rw [nS_len]; exact Nat.le_refl _)])
    exact ⟨(nS s).take 2, _, _, by rw [e1, e2], hb, by rw [List.length_take]; omega, .inl ⟨h1, h2, rfl⟩⟩
  · exact ⟨[], s, true, rfl, (fun y hy => by cases hy), Nat.zero_le _, .inr ⟨h1, rfl⟩⟩
set_option maxHeartbeats 4000000 in
set_option maxRecDepth 20000 in
theorem rtake2_any (s : ByteArray) (bad : Bool) (w : World) (hs : s.size ≤ 100000) :
    Calls Tryz.prog 29 #[opnV s bad, .int .i64 2] w (RTakeQ s bad w) := by
  obtain ⟨hb2, h1, h2⟩ := opn_new w s bad ⟨#[]⟩ false
  have c0 := h1.cell 0
  have c1 := h1.cell 1
  simp only [List.getElem?_cons_zero, List.getElem?_cons_succ] at c0 c1
  have HB := hide hb2
  have HW := hide h2
  clear hb2 h1 h2
  unfold opnV
  go_enter Tryz.func29, Tryz.ntmps29
  go_upto_region 1 with fail
  generalize (w.alloc (.cells #[.string s, .bool bad] 74)).alloc (.cells #[.string ⟨#[]⟩, .bool false] 74) = w2 at *
  have HT := hide (rtext_any s bad 2 w2 hs (by decide))
  unfold opnV at HT
  go_wp2_with fail
  refine HT.out.mono ?_
  rintro e w3 hres
  have HB3 := hide hres.1
  obtain ⟨xs, s', b', rfl, hx, hl, hfin⟩ := rtake_u (w := w) hres
  unfold opnV
  have HX := hide hx
  have HFin := hide hfin
  clear hx hfin hres HT
  go_upto_region 4 with fail
  obtain ⟨hw7, hb7⟩ : Whole (w3.alloc (.cells #[.string s', .bool b'] 74)) w3.heap.size 74 [.string s', .bool b'] ∧ Below w3.heap.size w3 (w3.alloc (.cells #[.string s', .bool b'] 74)) := ⟨Whole.new w3 _ _, (Below.refl _ _).alloc (Nat.le_refl _) _⟩
  have hz2 := HW.out.lt
  have HB7 := hide (HB.out.trans ((HB3.out.trans (hb7.mono HB3.out.size)).mono HB.out.size))
  have HW7 := hide ((HW.out.below HB3.out hz2).below hb7 (Nat.lt_of_lt_of_le hz2 HB3.out.size))
  have HY7 := hide hw7
  clear hw7 hb7 HW HB HB3 hz2
  generalize w3.alloc (.cells #[.string s', .bool b'] 74) = w7 at *
  refine wp_region_held_drew (S := (fun w' => Below w.heap.size w w')) (by kernel_rfl) (HB7.out.drew) (fun hHeld => ?_)
  have HW7 := hide (show Whole w7.drew _ _ _ from HW7.out.below (Below.refl _ _).drew HW7.out.lt)
  have HY7 := hide (show Whole w7.drew _ _ _ from HY7.out.below (Below.refl _ _).drew HY7.out.lt)
  generalize w7.drew = wd at *
  refine wpAnyH_take (i := 0) (v := ?vaq1) rfl (by kernel_rfl) (by kernel_rfl) (by kernel_rfl) (fun _ _ _ h => h) (Or.inl ⟨by rfl, ?haq1⟩) (by assumption) ?raq1
  case haq1 => (intro wq hSw; go_simp; (try with_reducible rfl))
  try simp only [Act.put, List.getElem_toArray, List.getElem_cons_zero, List.setIfInBounds_toArray, List.set_cons_zero, List.set_cons_succ]
  refine wpAnyH_ready (rs := [1, 2]) (by kernel_rfl) (by simp) ?_
  refine AllReadyH.cons (o := _) rfl (fun K hK => ?_) ?_
  · skip
    go_simp
    refine (rvalue_any xs HX.out hl _).mono ?_
    rintro e ws ⟨rfl, rfl⟩
    refine hK.out _ _ (hHeld) (fun hHeld => ?_)
    clear hK K 
    try simp only [Act.put, List.getElem_toArray, List.getElem_cons_zero, List.getElem_cons_succ, List.setIfInBounds_toArray, List.set_cons_zero, List.set_cons_succ]
    refine wpAnyH_take (i := 3) (v := ?vaq2) rfl (by kernel_rfl) (by kernel_rfl) (by kernel_rfl) (fun _ _ _ h => h) (Or.inl ⟨by rfl, ?haq2⟩) (by assumption) ?raq2
    case haq2 => (intro wq hSw; go_simp; (try with_reducible rfl))
    try simp only [Act.put, List.getElem_toArray, List.getElem_cons_zero, List.getElem_cons_succ, List.setIfInBounds_toArray, List.set_cons_zero, List.set_cons_succ]
    refine wpAnyH_ready (rs := [2]) (by kernel_rfl) (by simp) ?_
    refine AllReadyH.cons (o := _) rfl (fun K hK => ?_) ?_
    · skip
      have y0 := HY7.out.cell 0
      have y1 := HY7.out.cell 1
      simp only [List.getElem?_cons_zero, List.getElem?_cons_succ] at y0 y1
      go_simp
      refine hK.out _ _ (hHeld) (fun hHeld => ?_)
      clear hK K y0 y1
      try simp only [Act.put, List.getElem_toArray, List.getElem_cons_zero, List.getElem_cons_succ, List.setIfInBounds_toArray, List.set_cons_zero, List.set_cons_succ]
      refine wpAnyH_ready (rs := [4]) (by kernel_rfl) (by simp) ?_
      refine AllReadyH.cons (o := _) rfl (fun K hK => ?_) ?_
      · skip
        have y0 := HW7.out.cell 0
        have y1 := HW7.out.cell 1
        have f0 := HW7.out.frozen 0
        have f1 := HW7.out.frozen 1
        simp only [List.getElem?_cons_zero, List.getElem?_cons_succ] at y0 y1
        go_simp
        refine hK.out _ _ (opn_bel (n := 0) hHeld ()) (fun hHeld => ?_)
        clear hK K y0 y1 f0 f1
        try simp only [Act.put, List.getElem_toArray, List.getElem_cons_zero, List.getElem_cons_succ, List.setIfInBounds_toArray, List.set_cons_zero, List.set_cons_succ]
        refine wpAnyH_done (by kernel_rfl) ?_ _
        go_wp2_with fail
        exact bodyPost_ret (v := .tuple #[.int .u64 (Pl.un xs), opnV s' b']) (ret_opn Tryz.results29 _ _ (w.heap.size + 1) s' b' rfl (opn_set (n := 0) HW7.out ())) rfl ⟨hHeld, HFin.out⟩
      exact AllReadyH.nil
    exact AllReadyH.nil
  refine AllReadyH.cons (o := _) rfl (fun K hK => ?_) ?_
  · skip
    have y0 := HY7.out.cell 0
    have y1 := HY7.out.cell 1
    simp only [List.getElem?_cons_zero, List.getElem?_cons_succ] at y0 y1
    go_simp
    refine hK.out _ _ (hHeld) (fun hHeld => ?_)
    clear hK K y0 y1
    try simp only [Act.put, List.getElem_toArray, List.getElem_cons_zero, List.getElem_cons_succ, List.setIfInBounds_toArray, List.set_cons_zero, List.set_cons_succ]
    refine wpAnyH_ready (rs := [1]) (by kernel_rfl) (by simp) ?_
    refine AllReadyH.cons (o := _) rfl (fun K hK => ?_) ?_
    · skip
      go_simp
      refine (rvalue_any xs HX.out hl _).mono ?_
      rintro e ws ⟨rfl, rfl⟩
      refine hK.out _ _ (hHeld) (fun hHeld => ?_)
      clear hK K 
      try simp only [Act.put, List.getElem_toArray, List.getElem_cons_zero, List.getElem_cons_succ, List.setIfInBounds_toArray, List.set_cons_zero, List.set_cons_succ]
      refine wpAnyH_take (i := 3) (v := ?vaq3) rfl (by kernel_rfl) (by kernel_rfl) (by kernel_rfl) (fun _ _ _ h => h) (Or.inl ⟨by rfl, ?haq3⟩) (by assumption) ?raq3
      case haq3 => (intro wq hSw; go_simp; (try with_reducible rfl))
      try simp only [Act.put, List.getElem_toArray, List.getElem_cons_zero, List.getElem_cons_succ, List.setIfInBounds_toArray, List.set_cons_zero, List.set_cons_succ]
      refine wpAnyH_ready (rs := [4]) (by kernel_rfl) (by simp) ?_
      refine AllReadyH.cons (o := _) rfl (fun K hK => ?_) ?_
      · skip
        have y0 := HW7.out.cell 0
        have y1 := HW7.out.cell 1
        have f0 := HW7.out.frozen 0
        have f1 := HW7.out.frozen 1
        simp only [List.getElem?_cons_zero, List.getElem?_cons_succ] at y0 y1
        go_simp
        refine hK.out _ _ (opn_bel (n := 0) hHeld ()) (fun hHeld => ?_)
        clear hK K y0 y1 f0 f1
        try simp only [Act.put, List.getElem_toArray, List.getElem_cons_zero, List.getElem_cons_succ, List.setIfInBounds_toArray, List.set_cons_zero, List.set_cons_succ]
        refine wpAnyH_done (by kernel_rfl) ?_ _
        go_wp2_with fail
        exact bodyPost_ret (v := .tuple #[.int .u64 (Pl.un xs), opnV s' b']) (ret_opn Tryz.results29 _ _ (w.heap.size + 1) s' b' rfl (opn_set (n := 0) HW7.out ())) rfl ⟨hHeld, HFin.out⟩
      exact AllReadyH.nil
    exact AllReadyH.nil
  exact AllReadyH.nil
end Go.Proofs.YtokibbgahefkbaaGreatDoor.Fe
namespace Go.Proofs.YtokibbgahefkbaaGreatDoor.Fe
open Go.RowKit Go.Shelf

def bt (b : Bool) : Int := if b then 1 else 0
theorem rname_rel {so : ByteArray} {bad : Bool} {w w' : World} {e : Ending} (h : RNameQ so bad w e w') : ∃ u s1 bad1, e = .returned (.tuple #[.string u, opnV s1 bad1]) ∧ NameR (nS so) (bt bad) u (nS s1) (bt bad1) ∧ s1.size ≤ so.size ∧ (bad = true → bad1 = true) ∧ Below w.heap.size w w' := by
  obtain ⟨hb, ⟨rfl, k, r, h1, rfl⟩ | ⟨h1, rfl⟩⟩ := h
  · have hr : Byt r := fun x hx => nS_byts so x ((nameL_sub h1).1 x hx)
    refine ⟨_, _, _, rfl, .inl ⟨rfl, rfl, k, by rw [nS_of hr]; exact h1, rfl⟩, ?_, (fun h => by cases h), hb⟩
    rw [ofNums_size, ← nS_len so]; exact (nameL_sub h1).2
  · refine ⟨_, _, _, rfl, .inr ⟨?_, rfl, by decide⟩, Nat.le_refl _, fun _ => rfl, hb⟩
    rcases h1 with rfl | h1
    · exact .inl (by decide)
    · exact .inr h1
theorem Sem.stepB {R : Option (List Ent × List Int)} {n : Nat} {b : List Ent} {xs r1 r2 : List Int} {key val : ByteArray} {bad b1 b2 : Bool} (h : Sem R (n + 1) b xs (bt bad) 0) (h1 : NameR xs (bt bad) key r1 (bt b1)) (hm1 : bad = true → b1 = true) (h2 : NameR r1 (bt b1) val r2 (bt b2)) (hm2 : b1 = true → b2 = true) : Sem R n (withL b key val) r2 (bt b2) (putErr b key val) := by
  cases bad with
  | false => exact Sem.step h h1 h2
  | true => exact .inr ⟨.inr (by rw [hm2 (hm1 rfl)]; decide), h.bad (.inr (by decide))⟩
/-- texts of pairs lie in no opener's block -/
theorem Mem.far2 {w w' : World} {b : Nat} {t : TypeId} {s : ByteArray} {k : Bool} {A : Option Addr} {es : List Ent} (h : Mem w w.heap.size A (pv es)) (hw : Whole w b t [.string s, .bool k]) (hk : Kp (OnlyF b) w w') : Mem w' w'.heap.size A (pv es) := fun h0 => by
  obtain ⟨g, off, e, hb, hc⟩ := h h0
  have h1 : 1 < (pv es).length := by rw [pv_len] at h0 ⊢; omega
  have hne : g ≠ b := fun e => by
    subst e
    obtain ⟨s1, hs1⟩ := pv_str es 1 h1
    have h3 := hc 1 h1
    rw [hs1, hw.cell] at h3
    match off, h3 with
    | 0, h3 => cases h3
    | 1, h3 => cases h3
    | k + 2, h3 => cases h3
  exact ⟨g, off, e, Nat.lt_of_lt_of_le hb hk.size, fun i hi => (hk.cell (p := ⟨g, off + i, none⟩) hb (fun e => hne e)).trans (hc i hi)⟩
structure DSt (w wr : World) (B : Nat) (A : Option Addr) (b : List Ent) (so : ByteArray) (bad : Bool) : Prop where
  bel : Below w.heap.size w wr
  box : Whole wr B 74 [.string so, .bool bad]
  mem : Mem wr wr.heap.size A (pv b)
  bk : Bk b
  len : so.size ≤ 90000
  d : w.heap.size ≤ B
theorem DSt.below {w wr w' : World} {B : Nat} {A : Option Addr} {b : List Ent} {so : ByteArray} {bad : Bool} (h : DSt w wr B A b so bad) (hb : Below wr.heap.size wr w') : DSt w w' B A b so bad :=
  ⟨h.bel.trans (hb.mono h.bel.size), h.box.below hb h.box.lt, (h.mem.below hb).mono hb.size, h.bk, h.len, h.d⟩
theorem DSt.put {w wr : World} {B : Nat} {A A' : Option Addr} {b b' : List Ent} {so s2 : ByteArray} {bad k2 : Bool} (h : DSt w wr B A b so bad) (hm : Mem wr wr.heap.size A' (pv b')) (hb : Bk b') (hs : s2.size ≤ 90000) : DSt w ((wr.setCell ⟨B, 0, none⟩ (.string s2)).setCell ⟨B, 1, none⟩ (.bool k2)) B A' b' s2 k2 := by
  have hx := (h.box.set_ 0 (.string s2)).set_ 1 (.bool k2)
  have hk1 : Kp (OnlyF B) wr (wr.setCell ⟨B, 0, none⟩ (.string s2)) := Kp.set_only _ _ _ _
  have hk2 : Kp (OnlyF B) (wr.setCell ⟨B, 0, none⟩ (.string s2)) ((wr.setCell ⟨B, 0, none⟩ (.string s2)).setCell ⟨B, 1, none⟩ (.bool k2)) := Kp.set_only _ _ _ _
  exact ⟨(h.bel.setCell (p := ⟨B, 0, none⟩) h.d _).setCell (p := ⟨B, 1, none⟩) h.d _, hx, (hm.far2 h.box hk1).far2 (h.box.set_ 0 (.string s2)) hk2, hb, hs, h.d⟩
/-- what ref's Take gives -/
def RTkQ (s : ByteArray) (w : World) (e : Ending) (w' : World) : Prop :=
  ∃ A c b err, e = .returned (.tuple #[.slice A b.length c, .int .i64 err]) ∧ Mem w' w'.heap.size A (pv b) ∧ Below w.heap.size w w' ∧ ((takeP (nS s) = some b ∧ err = 0) ∨ (takeP (nS s) = none ∧ b = [] ∧ err = 3))
theorem rtk_bad {s : ByteArray} {w w' : World} (hb : Below w.heap.size w w') (h : takeP (nS s) = none) : RTkQ s w (.returned (.tuple #[.slice none 0 0, .int .i64 3])) w' := ⟨none, 0, [], 3, rfl, Mem.nil, hb, .inr ⟨h, rfl, rfl⟩⟩
theorem opn_alloc (w3 : World) (s : ByteArray) (b : Bool) : Whole (w3.alloc (.cells #[.string s, .bool b] 74)) w3.heap.size 74 [.string s, .bool b] ∧ Below w3.heap.size w3 (w3.alloc (.cells #[.string s, .bool b] 74)) := ⟨Whole.new w3 _ _, (Below.refl _ _).alloc (Nat.le_refl _) _⟩
set_option maxHeartbeats 4000000 in
set_option maxRecDepth 20000 in
theorem refTake_any (s : ByteArray) (hs : s.size ≤ 90000) (w : World) :
    Calls Tryz.prog 8 #[.string s] w (RTkQ s w) := by
  have HT := hide (rtake2_any s false w (by omega))
  unfold opnV at HT
  go_enter Tryz.func8, Tryz.ntmps8
  go_wp2_with fail
  refine HT.out.mono ?_
  rintro e w1 ⟨hb1, hres⟩
  obtain ⟨n, so, bad, rfl, hn, hsl, hsem⟩ : ∃ (n : Nat) (so : ByteArray) (bad : Bool), e = .returned (.tuple #[.int .u64 (n : Int), opnV so bad]) ∧ n < 65536 ∧ so.size ≤ 90000 ∧ Sem (headR (nS s)) n [] (nS so) (bt bad) 0 := by
    rcases hres with ⟨_, h2, rfl⟩ | ⟨h1, rfl⟩
    · have hby : Byt ((nS s).take 2) := fun y hy => nS_byts s y (List.mem_of_mem_take hy)
      have hby2 : Byt ((nS s).drop 2) := fun y hy => nS_byts s y (List.mem_of_mem_drop hy)
      have hbd := Pl.un_bound ((nS s).take 2) hby
      have ht : ((nS s).take 2).length = 2 := by rw [List.length_take, nS_len]; omega
      rw [ht] at hbd
      refine ⟨(Pl.un ((nS s).take 2)).toNat, _, false, by rw [Int.toNat_of_nonneg (by omega)], by omega, by rw [ofNums_size, List.length_drop, nS_len]; omega, .inl ⟨rfl, rfl, ?_⟩⟩
      rw [nS_of hby2]
      unfold headR
      rw [if_pos (by rw [nS_len]; exact h2)]
    · refine ⟨0, s, true, rfl, by decide, hs, .inr ⟨.inr (by decide), ?_⟩⟩
      unfold headR
      rw [if_neg (by rw [nS_len]; have := h1.resolve_left (by decide); omega)]
  unfold opnV
  obtain ⟨hw2, hb2⟩ := opn_alloc w1 so bad
  have HS := hide (show DSt w (w1.alloc (.cells #[.string so, .bool bad] 74)) w1.heap.size none [] so bad from ⟨hb1.trans (hb2.mono hb1.size), hw2, Mem.nil, Bk.nil, hsl, hb1.size⟩)
  have HSe := hide hsem
  clear hb1 hres hsl hsem hw2 hb2 HT
  go_upto_region 2 with fail
  generalize w1.alloc (.cells #[.string so, .bool bad] 74) = w2 at *
  generalize w1.heap.size = B at *
  go_upto_region 4 with fail
  have hn64 : (n : Int) < 18446744073709551616 := by omega
  go_loopw [6, 7, 8, 9, 10, 11, 12, 13] (fun x y _ _ _ _ _ _ wr => ∃ (j m : Nat) (b : List Ent) (A : Option Addr) (c : Nat) (so : ByteArray) (bad : Bool), j + m = n ∧ y = .int .u64 (j : Int) ∧ x = .slice A b.length c ∧ DSt w wr B A b so bad ∧ Sem (headR (nS s)) m b (nS so) (bt bad) 0) (fun _ y _ _ _ _ _ _ _ => n - (Go.RowKit.intOf y).toNat)
  case atStart => exact ⟨0, n, [], none, 0, so, bad, by omega, rfl, rfl, HS.out, HSe.out⟩
  case round =>
    clear HS HSe
    obtain ⟨j, m, b, A, c, so, bad, hjm, rfl, rfl, hst, hse⟩ := hrel
    have HSt := hide hst
    have HSe := hide hse
    clear hst hse
    cases m with
    | succ m =>
      have hlt : (j : Int) < (n : Int) := by omega
      have c0 := HSt.out.box.cell 0
      have c1 := HSt.out.box.cell 1
      simp only [List.getElem?_cons_zero, List.getElem?_cons_succ] at c0 c1
      have HN1 := hide (rname_any2 so bad wr (Nat.le_trans HSt.out.len (by decide)))
      unfold opnV at HN1
      go_wp2_with fail
      refine HN1.out.mono ?_
      rintro e w3 hres
      obtain ⟨key, s1, b1, rfl, hr1, hl1, hm1, hb1⟩ := rname_rel hres
      unfold opnV
      obtain ⟨hw4, hb4⟩ := opn_alloc w3 s1 b1
      have HS4 := hide ((HSt.out.below hb1).below hb4)
      have HR1 := hide hr1
      have HL1 := hide hl1
      have HM1 := hide hm1
      have c0 := hw4.cell 0
      have c1 := hw4.cell 1
      simp only [List.getElem?_cons_zero, List.getElem?_cons_succ] at c0 c1
      clear hres hr1 hl1 hm1 hb1 hw4 hb4 HN1
      go_upto_region 7 with fail
      generalize w3.alloc (.cells #[.string s1, .bool b1] 74) = w4 at *
      generalize w3.heap.size = B4 at *
      have HN2 := hide (rname_any2 s1 b1 w4 (Nat.le_trans (Nat.le_trans HL1.out HSt.out.len) (by decide)))
      unfold opnV at HN2
      go_wp2_with fail
      refine HN2.out.mono ?_
      rintro e w5 hres
      obtain ⟨val, s2, b2, rfl, hr2, hl2, hm2, hb5⟩ := rname_rel hres
      unfold opnV
      obtain ⟨hw6, hb6⟩ := opn_alloc w5 s2 b2
      have HS6 := hide ((HS4.out.below hb5).below hb6)
      have HR2 := hide (HSe.out.stepB HR1.out HM1.out hr2 hm2)
      have HL2 := hide (Nat.le_trans hl2 (Nat.le_trans HL1.out HSt.out.len))
      have HW6 := hide hw6
      clear hres hr2 hl2 hm2 hb5 hw6 hb6 HN2 c0 c1 HR1 HM1 HL1 HS4 HSe HSt
      go_upto_region 8 with fail
      generalize w5.alloc (.cells #[.string s2, .bool b2] 74) = w6 at *
      generalize w5.heap.size = B6 at *
      have HW := hide (rwith_any A c b key val w6 HS6.out.mem HS6.out.bk)
      go_wp2_with fail
      refine HW.out.mono ?_
      rintro e w7 ⟨A7, c7, rfl, hm7, hb7⟩
      have HS7 := hide (HS6.out.below hb7)
      have HW7 := hide (HW6.out.below hb7 HW6.out.lt)
      have HM7 := hide hm7
      have HBk7 := hide (withL_bk (k := key) (v := val) HS6.out.bk)
      generalize putErr b key val = er at *
      clear hm7 hb7 HS6 HW6 HW
      by_cases her : er = 0
      · subst her
        have c0 := HW7.out.cell 0
        have c1 := HW7.out.cell 1
        have r0 := HS7.out.box.cell 0
        have r1 := HS7.out.box.cell 1
        have f0 := HS7.out.box.frozen 0
        have f1 := HS7.out.box.frozen 1
        simp only [List.getElem?_cons_zero, List.getElem?_cons_succ] at c0 c1 r0 r1
        clear HW7
        go_wp2_with fail
        have HNum := hide (show Value.int IntKind.u64 ((j : Int) + 1) = .int .u64 ((j + 1 : Nat) : Int) from rfl)
        have HMe := hide (show n - (Go.RowKit.intOf (Value.int IntKind.u64 ((j : Int) + 1))).toNat < n - (Go.RowKit.intOf (Value.int IntKind.u64 (j : Int))).toNat by simp only [Go.RowKit.intOf]; omega)
        exact ⟨⟨j + 1, m, withL b key val, A7, c7, s2, b2, by omega, HNum.out, rfl, HS7.out.put HM7.out HBk7.out HL2.out, HR2.out⟩, HMe.out⟩
      · have HE := hide (take_none (HR2.out.bad (.inl her)))
        have HB := hide HS7.out.bel
        clear HS7 HW7 HM7 HBk7 HR2
        have hq : (er != 0) = true := bne_iff_ne.2 her
        clear her hjm hlt hn64 hn
        go_wp2_with fail
        exact bodyPost_ret (v := .tuple #[.slice none 0 0, .int .i64 3]) (by simp [results, Tryz.results8, go_sem]) rfl (rtk_bad HB.out HE.out)
    | zero =>
      have hlt : ¬ (j : Int) < (n : Int) := by omega
      have r1 := HSt.out.box.cell 1
      simp only [List.getElem?_cons_zero, List.getElem?_cons_succ] at r1
      have HBy := hide (rbytes_any A c b wr HSt.out.mem HSt.out.bk)
      cases bad with
      | true =>
        have HE := hide (take_none (HSe.out.bad (.inr (by decide))))
        clear HSe HBy
        have HB := hide HSt.out.bel
        clear HSt
        go_wp2_with fail
        exact bodyPost_ret (v := .tuple #[.slice none 0 0, .int .i64 3]) (by simp [results, Tryz.results8, go_sem]) rfl (rtk_bad HB.out HE.out)
      | false =>
        have HE := hide (take_all (HSe.out.end_))
        clear HSe
        go_wp2_with fail
        refine HBy.out.mono ?_
        rintro e w3 ⟨rfl, hb3⟩
        have HS3 := hide (HSt.out.below hb3)
        clear hb3 HBy r1 HSt
        have HIff := hide (enc_iff HS3.out.bk s)
        generalize strOfNums (encB b) = sb at *
        by_cases hsb : sb = s
        · have HEq := hide (HIff.out.mp hsb)
          subst hsb
          have HQ := hide (show RTkQ sb w (.returned (.tuple #[.slice A b.length c, .int .i64 0])) w3 from ⟨A, c, b, 0, rfl, HS3.out.mem, HS3.out.bel, .inl ⟨by rw [HE.out, if_pos HEq.out], rfl⟩⟩)
          clear HS3 HE HIff HEq
          go_wp2_with fail
          exact bodyPost_ret (v := .tuple #[.slice A b.length c, .int .i64 0]) (by simp [results, Tryz.results8, go_sem]) rfl HQ.out
        · have hbe := beq_str_ne' hsb
          have HE := hide (show takeP (nS s) = none by rw [HE.out, if_neg (fun h => hsb (HIff.out.mpr h))])
          have HB := hide HS3.out.bel
          clear hsb HS3 HIff
          go_wp2_with fail
          exact bodyPost_ret (v := .tuple #[.slice none 0 0, .int .i64 3]) (by simp [results, Tryz.results8, go_sem]) rfl (rtk_bad HB.out HE.out)
end Go.Proofs.YtokibbgahefkbaaGreatDoor.Fe
namespace Go.Proofs.YtokibbgahefkbaaGreatDoor.Fe
open Go.RowKit Go.Shelf

theorem keysW_nil (es : List Ent) : keysW es ⟨#[]⟩ = es.map (·.1) := by
  unfold keysW
  rw [List.filter_eq_self.2]
  intro e _
  unfold preB Lib.hasPrefix
  simp
theorem keys_at {w : World} {B : Nat} {A : Option Addr} {ss : List ByteArray} (h : Mem w B A (strs ss)) (hn : 0 < ss.length) : ∃ g off, A = some ⟨g, off, none⟩ ∧ g < B ∧ ∀ j (hj : j < ss.length), w.cell? ⟨g, off + j, none⟩ = some (.string ss[j]) := by
  have hl : (strs ss).length = ss.length := by simp [strs]
  obtain ⟨g, off, e, hg, hc⟩ := h.get (by rw [hl]; exact hn)
  refine ⟨g, off, e, hg, fun j hj => ?_⟩
  rw [hc j (by rw [hl]; exact hj)]
  simp [strs]
set_option maxHeartbeats 4000000 in
set_option maxRecDepth 20000 in
theorem same_any (A A2 : Option Addr) (c c2 : Nat) (es : List Ent) (w : World) (hm : Mem w w.heap.size A (pv es)) (hm2 : Mem w w.heap.size A2 (pv es)) (hb : Bk es) :
    Calls Tryz.prog 9 #[bkV A es.length c, .slice A2 es.length c2] w fun e w' => e = .returned (.bool true) ∧ Below w.heap.size w w' := by
  obtain ⟨hw1, hb1⟩ : Whole (w.alloc (.cells #[.slice A es.length c] 25)) w.heap.size 25 [.slice A es.length c] ∧ Below w.heap.size w (w.alloc (.cells #[.slice A es.length c] 25)) := ⟨Whole.new w _ _, (Below.refl _ _).alloc (Nat.le_refl _) _⟩
  have c0 := hw1.cell 0
  simp only [List.getElem?_cons_zero] at c0
  have hsz := hb1.size
  have HB1 := hide hb1
  have HW1 := hide hw1
  have HM := hide ((hm.below hb1).mono hsz)
  have HM2 := hide ((hm2.below hb1).mono hsz)
  have HBk := hide hb
  have hl := hb.len
  clear hb1 hw1 hsz hm hm2 hb
  unfold bkV
  go_enter Tryz.func9, Tryz.ntmps9
  go_upto_region 1 with fail
  generalize w.alloc (.cells #[.slice A es.length c] 25) = w1 at *
  have HK := hide (keys_any A c es ⟨#[]⟩ w1 HM.out (by omega))
  unfold bkV at HK
  go_wp2_with fail
  refine HK.out.mono ?_
  rintro e w2 ⟨Ak, ck, rfl, ho, hb2⟩
  have hkl : (keysW es ⟨#[]⟩).length = es.length := by rw [keysW_nil, List.length_map]
  rw [hkl] at ho ⊢
  have HKm := hide (owns_mem ho)
  have HB2 := hide (HB1.out.trans (hb2.mono HB1.out.size))
  have HW2 := hide (HW1.out.below hb2 HW1.out.lt)
  have HMb := hide ((HM.out.below hb2).mono hb2.size)
  have HMc := hide ((HM2.out.below hb2).mono hb2.size)
  clear ho hb2 HK HB1 HW1 HM HM2 c0
  have c0 := HW2.out.cell 0
  simp only [List.getElem?_cons_zero] at c0
  clear hkl
  go_upto_region 2 with fail
  have HLen := hide (len_any A es.length c w2)
  unfold bkV at HLen
  go_wp2_with fail
  refine HLen.out.mono ?_
  rintro e w3 ⟨rfl, hb3⟩
  have HB3 := hide (HB2.out.trans (hb3.mono HB2.out.size))
  have HW3 := hide (HW2.out.below hb3 HW2.out.lt)
  have HMd := hide ((HMb.out.below hb3).mono hb3.size)
  have HMe := hide ((HMc.out.below hb3).mono hb3.size)
  have HKe := hide ((HKm.out.below hb3).mono hb3.size)
  clear hb3 HLen HB2 HW2 HMb HMc HKm c0
  go_upto_region 5 with fail
  go_loopw [6, 7, 8] (fun x _ _ wr => ∃ j : Nat, j ≤ es.length ∧ x = .int .i64 j ∧ Below w3.heap.size w3 wr) (fun x _ _ _ => es.length - (Go.RowKit.intOf x).toNat)
  case atStart => exact ⟨0, Nat.zero_le _, rfl, Below.refl _ _⟩
  case round =>
    obtain ⟨j, hj, rfl, hbr⟩ := hrel
    have HBr := hide hbr
    have HWr := hide (HW3.out.below hbr HW3.out.lt)
    have HMr := hide ((HMd.out.below hbr).mono hbr.size)
    have HNr := hide ((HMe.out.below hbr).mono hbr.size)
    have HKr := hide ((HKe.out.below hbr).mono hbr.size)
    clear hbr
    by_cases hlt : j < es.length
    · obtain ⟨g, off, rfl, hg, hc⟩ := keys_at HKr.out (by rw [keysW_nil, List.length_map]; omega)
      obtain ⟨g2, off2, rfl, hg2, hc2⟩ := prs_at HNr.out (by omega)
      have f0 : wr.cell? ⟨g, off + j, none⟩ = some (.string es[j].1) := by
        have h := hc j (by rw [keysW_nil, List.length_map]; exact hlt)
        rw [h]
        simp only [keysW_nil, List.getElem_map]
      obtain ⟨f1, f2⟩ := hc2 j hlt
      have HLk := hide (show getV es es[j].1 = .tuple #[.string es[j].2, .bool true] by
        unfold getV
        rw [lookup_hit HBk.out.rise hlt])
      have HG := hide (get_any A c es es[j].1)
      rw [HLk.out] at HG
      generalize es[j].1 = kj at *
      generalize es[j].2 = vj at *
      clear hc hc2
      have HWd := hide (show Whole wr.drew w.heap.size 25 [.slice A es.length c] from HWr.out.below (Below.refl _ _).drew HWr.out.lt)
      have HMw := hide (show Mem wr.drew wr.drew.heap.size A (pv es) from (HMr.out.below (Below.refl _ _).drew).mono (Nat.le_refl _))
      have c0 := HWr.out.cell 0
      simp only [List.getElem?_cons_zero] at c0
      have hw0 := HWr.out.lt
      go_upto_region 7 with fail
      refine wp_region_held_drew (S := (fun w' => Below wr.heap.size wr w')) (by kernel_rfl) ((Below.refl _ _).drew) (fun hHeld => ?_)
      generalize wr.drew = wd at *
      refine wpAnyH_take (i := 0) (v := ?vaq1) rfl (by kernel_rfl) (by kernel_rfl) (by kernel_rfl) (fun _ _ _ h => h) (Or.inl ⟨by rfl, ?haq1⟩) (by assumption) ?raq1
      case haq1 => (intro wq hSw; have e0 := (hSw.cell (p := ⟨w.heap.size, 0, none⟩) hw0).trans c0; go_simp; (try with_reducible rfl))
      try simp only [Act.put, List.getElem_toArray, List.getElem_cons_zero, List.setIfInBounds_toArray, List.set_cons_zero, List.set_cons_succ]
      refine wpAnyH_take (i := 1) (v := ?vaq2) rfl (by kernel_rfl) (by kernel_rfl) (by kernel_rfl) (fun _ _ _ h => h) (Or.inl ⟨by rfl, ?haq2⟩) (by assumption) ?raq2
      case haq2 => (intro wq hSw; go_simp; (try with_reducible rfl))
      try simp only [Act.put, List.getElem_toArray, List.getElem_cons_zero, List.getElem_cons_succ, List.setIfInBounds_toArray, List.set_cons_zero, List.set_cons_succ]
      refine wpAnyH_take (i := 2) (v := ?vaq3) rfl (by kernel_rfl) (by kernel_rfl) (by kernel_rfl) (fun _ _ _ h => h) (Or.inl ⟨by rfl, ?haq3⟩) (by assumption) ?raq3
      case haq3 => (intro wq hSw; go_simp; (try with_reducible rfl))
      try simp only [Act.put, List.getElem_toArray, List.getElem_cons_zero, List.getElem_cons_succ, List.setIfInBounds_toArray, List.set_cons_zero, List.set_cons_succ]
      refine wpAnyH_take (i := 3) (v := ?vaq4) rfl (by kernel_rfl) (by kernel_rfl) (by kernel_rfl) (fun _ _ _ h => h) (Or.inl ⟨by rfl, ?haq4⟩) (by assumption) ?raq4
      case haq4 => (intro wq hSw; go_simp; (try with_reducible rfl))
      try simp only [Act.put, List.getElem_toArray, List.getElem_cons_zero, List.getElem_cons_succ, List.setIfInBounds_toArray, List.set_cons_zero, List.set_cons_succ]
      refine wpAnyH_take (i := 4) (v := ?vaq5) rfl (by kernel_rfl) (by kernel_rfl) (by kernel_rfl) (fun _ _ _ h => h) (Or.inl ⟨by rfl, ?haq5⟩) (by assumption) ?raq5
      case haq5 => (intro wq hSw; have e0 := (hSw.cell (p := ⟨g, off + j, none⟩) hg).trans f0; go_simp; (try with_reducible rfl))
      try simp only [Act.put, List.getElem_toArray, List.getElem_cons_zero, List.getElem_cons_succ, List.setIfInBounds_toArray, List.set_cons_zero, List.set_cons_succ]
      refine wpAnyH_ready (rs := [5]) (by kernel_rfl) (by simp) ?_
      refine AllReadyH.cons (o := _) rfl (fun K hK => ?_) ?_
      · skip
        have hgt := HG.out wd HMw.out (by omega) HBk.out.rise
        unfold bkV at hgt
        go_simp
        refine hgt.mono ?_
        rintro e ws ⟨rfl, hbs⟩
        have HS := hide (hHeld.trans (hbs.mono hHeld.size))
        clear hbs hgt
        refine hK.out _ _ (HS.out) (fun hHeld => ?_)
        clear hK K 
        try simp only [Act.put, List.getElem_toArray, List.getElem_cons_zero, List.getElem_cons_succ, List.setIfInBounds_toArray, List.set_cons_zero, List.set_cons_succ]
        refine wpAnyH_take (i := 6) (v := ?vaq6) rfl (by kernel_rfl) (by kernel_rfl) (by kernel_rfl) (fun _ _ _ h => h) (Or.inl ⟨by rfl, ?haq6⟩) (by assumption) ?raq6
        case haq6 => (intro wq hSw; go_simp; (try with_reducible rfl))
        try simp only [Act.put, List.getElem_toArray, List.getElem_cons_zero, List.getElem_cons_succ, List.setIfInBounds_toArray, List.set_cons_zero, List.set_cons_succ]
        refine wpAnyH_take (i := 7) (v := ?vaq7) rfl (by kernel_rfl) (by kernel_rfl) (by kernel_rfl) (fun _ _ _ h => h) (Or.inl ⟨by rfl, ?haq7⟩) (by assumption) ?raq7
        case haq7 => (intro wq hSw; go_simp; (try with_reducible rfl))
        try simp only [Act.put, List.getElem_toArray, List.getElem_cons_zero, List.getElem_cons_succ, List.setIfInBounds_toArray, List.set_cons_zero, List.set_cons_succ]
        refine wpAnyH_take (i := 8) (v := ?vaq8) rfl (by kernel_rfl) (by kernel_rfl) (by kernel_rfl) (fun _ _ _ h => h) (Or.inl ⟨by rfl, ?haq8⟩) (by assumption) ?raq8
        case haq8 => (intro wq hSw; go_simp; (try with_reducible rfl))
        try simp only [Act.put, List.getElem_toArray, List.getElem_cons_zero, List.getElem_cons_succ, List.setIfInBounds_toArray, List.set_cons_zero, List.set_cons_succ]
        refine wpAnyH_take (i := 9) (v := ?vaq9) rfl (by kernel_rfl) (by kernel_rfl) (by kernel_rfl) (fun _ _ _ h => h) (Or.inl ⟨by rfl, ?haq9⟩) (by assumption) ?raq9
        case haq9 => (intro wq hSw; go_simp; (try with_reducible rfl))
        try simp only [Act.put, List.getElem_toArray, List.getElem_cons_zero, List.getElem_cons_succ, List.setIfInBounds_toArray, List.set_cons_zero, List.set_cons_succ]
        refine wpAnyH_take (i := 10) (v := ?vaq10) rfl (by kernel_rfl) (by kernel_rfl) (by kernel_rfl) (fun _ _ _ h => h) (Or.inl ⟨by rfl, ?haq10⟩) (by assumption) ?raq10
        case haq10 => (intro wq hSw; go_simp; (try with_reducible rfl))
        try simp only [Act.put, List.getElem_toArray, List.getElem_cons_zero, List.getElem_cons_succ, List.setIfInBounds_toArray, List.set_cons_zero, List.set_cons_succ]
        refine wpAnyH_done (by kernel_rfl) ?_ _
        have HBn := hide (HBr.out.trans (hHeld.mono HBr.out.size))
        have f0' : ws.cell? ⟨g, off + j, none⟩ = some (.string kj) := (HS.out.cell (p := ⟨g, off + j, none⟩) hg).trans f0
        have f1' : ws.cell? ⟨g2, off2 + j * 2, none⟩ = some (.string kj) := (HS.out.cell (p := ⟨g2, off2 + j * 2, none⟩) hg2).trans f1
        have f2' : ws.cell? ⟨g2, off2 + j * 2 + 1, none⟩ = some (.string vj) := (HS.out.cell (p := ⟨g2, off2 + j * 2 + 1, none⟩) hg2).trans f2
        clear hHeld f0 f1 f2 HS
        go_upto_region 8 with fail
        go_quiet (fail)
        have HBm := hide (show Below w3.heap.size w3 (ws.drewN nq) from ⟨HBn.out.os, HBn.out.tape, HBn.out.output, HBn.out.size, HBn.out.block⟩)
        have HNum := hide (show Value.int IntKind.i64 ((j : Int) + 1) = .int .i64 ((j + 1 : Nat) : Int) from rfl)
        have HMs := hide (show es.length - (Go.RowKit.intOf (Value.int IntKind.i64 ((j : Int) + 1))).toNat < es.length - (Go.RowKit.intOf (Value.int IntKind.i64 (j : Int))).toNat by simp only [Go.RowKit.intOf]; omega)
        go_wp2_with fail
        exact ⟨⟨j + 1, by omega, HNum.out, HBm.out⟩, HMs.out⟩
      exact AllReadyH.nil
    · obtain rfl : j = es.length := by omega
      have c0 := HWr.out.cell 0
      simp only [List.getElem?_cons_zero] at c0
      have HBy := hide (bytesB_any A c es wr HMr.out HBk.out)
      unfold bkV at HBy
      go_wp2_with fail
      refine HBy.out.mono ?_
      rintro e w4 ⟨rfl, hb4⟩
      have HBy2 := hide (rbytes_any A2 c2 es w4 ((HNr.out.below hb4).mono hb4.size) HBk.out)
      have HB4 := hide (HB3.out.trans ((HBr.out.trans (hb4.mono HBr.out.size)).mono HB3.out.size))
      clear HBy hb4 c0
      go_wp2_with fail
      refine HBy2.out.mono ?_
      rintro e w5 ⟨rfl, hb5⟩
      have HB5 := hide (HB4.out.trans (hb5.mono HB4.out.size))
      clear HBy2 hb5 HB4
      generalize strOfNums (encB es) = sb at *
      go_wp2_with fail
      go_ret
      exact ⟨by simp, HB5.out⟩
end Go.Proofs.YtokibbgahefkbaaGreatDoor.Fe
namespace Go.Proofs.YtokibbgahefkbaaGreatDoor.Fe
open Go.RowKit Go.Shelf

/-- what the law owes of its witness of the store -/
def Wak (w : World) : Prop := ∀ w', Below w.heap.size w w' → Calls Tryz.prog 6 #[] w' fun e w'' => e = .returned (.bool true) ∧ Below w'.heap.size w' w''
set_option maxHeartbeats 4000000 in
set_option maxRecDepth 20000 in
theorem keepTakes_any (s : ByteArray) (w : World) (hwk : Wak w) :
    Calls Tryz.prog 3 #[.string s] w fun e w' => e = .returned (.bool true) ∧ Below w.heap.size w w' := by
  have HWk := hide hwk
  clear hwk
  by_cases hs : 3000 < s.size
  · have hsI : (3000 : Int) < (s.size : Int) := by omega
    clear hs
    have HW := hide (HWk.out w (Below.refl _ _))
    go_enter Tryz.func3, Tryz.ntmps3
    go_wp2_with fail
    refine HW.out.mono ?_
    rintro e w1 ⟨rfl, hb⟩
    have HB := hide hb
    clear hb
    go_wp2_with fail
    go_ret
    exact ⟨rfl, HB.out⟩
  · have hsI : ¬ (3000 : Int) < (s.size : Int) := by omega
    have HT := hide (keepTake_any s (by omega) w)
    have HR := hide (fun w1 => refTake_any s (by omega) w1)
    clear hs
    go_enter Tryz.func3, Tryz.ntmps3
    go_wp2_with fail
    refine HT.out.mono ?_
    rintro e w1 ⟨A, c, b, er, rfl, hm1, hb1, hq1⟩
    unfold bkV
    obtain ⟨hw2, hb2⟩ : Whole (w1.alloc (.cells #[.slice A b.length c] 25)) w1.heap.size 25 [.slice A b.length c] ∧ Below w1.heap.size w1 (w1.alloc (.cells #[.slice A b.length c] 25)) := ⟨Whole.new w1 _ _, (Below.refl _ _).alloc (Nat.le_refl _) _⟩
    have HB2 := hide (hb1.trans (hb2.mono hb1.size))
    have HW2 := hide hw2
    have HM2 := hide ((hm1.below hb2).mono hb2.size)
    have HQ1 := hide hq1
    clear hm1 hb1 hq1 hw2 hb2 HT
    go_upto_region 4 with fail
    generalize w1.alloc (.cells #[.slice A b.length c] 25) = w2 at *
    generalize w1.heap.size = B at *
    go_wp2_with fail
    refine (HR.out w2).mono ?_
    rintro e w3 ⟨A3, c3, b3, er3, rfl, hm3, hb3, hq3⟩
    obtain ⟨rfl, rfl, hbk⟩ : b3 = b ∧ er3 = er ∧ Bk b := by
      rcases HQ1.out with ⟨h1, rfl⟩ | ⟨h1, rfl, rfl⟩ <;> rcases hq3 with ⟨h2, rfl⟩ | ⟨h2, rfl, rfl⟩
      · exact ⟨Option.some.inj (h2.symm.trans h1), rfl, (takeP_ok h1).1⟩
      · rw [h1] at h2; cases h2
      · rw [h1] at h2; cases h2
      · exact ⟨rfl, rfl, Bk.nil⟩
    have HB3 := hide (HB2.out.trans (hb3.mono HB2.out.size))
    have HW3 := hide (HW2.out.below hb3 HW2.out.lt)
    have HM3 := hide ((HM2.out.below hb3).mono hb3.size)
    have HS := hide (same_any A A3 c c3 b3 w3 HM3.out hm3 hbk)
    unfold bkV at HS
    have c0 := HW3.out.cell 0
    simp only [List.getElem?_cons_zero] at c0
    clear hm3 hb3 hq3 HQ1 HB2 HW2 HM2 HR hbk
    go_wp2_with fail
    refine HS.out.mono ?_
    rintro e w4 ⟨rfl, hb4⟩
    have HB4 := hide (HB3.out.trans (hb4.mono HB3.out.size))
    have HWa := hide (HWk.out w4 HB4.out)
    clear hb4 HS c0 HB3
    go_wp2_with fail
    refine HWa.out.mono ?_
    rintro e w5 ⟨rfl, hb5⟩
    have HB5 := hide (HB4.out.trans (hb5.mono HB4.out.size))
    clear hb5
    go_wp2_with fail
    go_ret
    exact ⟨rfl, HB5.out⟩
end Go.Proofs.YtokibbgahefkbaaGreatDoor.Fe
