/- Walk of the document's With. Walk of the document's keys that begin with a text. -/
import Derived.Test.YtokibbgahefkbaaGreatDoorV2
set_option linter.all false
namespace Go.Proofs.YtokibbgahefkbaaGreatDoor.Fe
open Go.RowKit Go.Shelf

def RWithQ (es : List Ent) (k v : ByteArray) (w : World) (e : Ending) (w' : World) : Prop :=
  ∃ A c, e = .returned (.tuple #[.slice A (withL es k v).length c, .int .i64 (putErr es k v)]) ∧ Mem w' w'.heap.size A (pv (withL es k v)) ∧ Below w.heap.size w w'
theorem owns_cap {w : World} {base size n c : Nat} {e : TypeId} {A : Option Addr} {xs : List Value} (h : w.ownsRow base e size (.slice A n c) n xs) : n ≤ c := by
  rcases h.2 with ⟨e1, h0⟩ | ⟨g, cap, cur, e1, _, _, h1, _⟩
  · omega
  · injection e1 with _ _ e3
    omega
theorem pv_take (es : List Ent) (j : Nat) (h : j ≤ es.length) : pv (es.take j) = (pv es).take (j * 2) := by
  have h1 : pv es = pv (es.take j) ++ pv (es.drop j) := by rw [← pv_app, List.take_append_drop]
  have h2 : (pv (es.take j)).length = j * 2 := by rw [pv_len, List.length_take]; omega
  have h3 : (pv (es.take j) ++ pv (es.drop j)).take (j * 2) = pv (es.take j) := by rw [← h2]; exact List.take_left
  rw [← h1] at h3
  exact h3.symm
theorem pv_drop (es : List Ent) (j : Nat) (h : j ≤ es.length) : pv (es.drop j) = (pv es).drop (j * 2) := by
  have h1 : pv es = pv (es.take j) ++ pv (es.drop j) := by rw [← pv_app, List.take_append_drop]
  have h2 : (pv (es.take j)).length = j * 2 := by rw [pv_len, List.length_take]; omega
  have h3 : (pv (es.take j) ++ pv (es.drop j)).drop (j * 2) = pv (es.drop j) := by rw [← h2]; exact List.drop_left
  rw [← h1] at h3
  exact h3.symm
theorem Mem.dropP {w : World} {B g off : Nat} {es : List Ent} (h : Mem w B (some ⟨g, off, none⟩) (pv es)) (j : Nat) (hj : j ≤ es.length) : Mem w B (some ⟨g, off + j * 2, none⟩) (pv (es.drop j)) := fun h0 => by
  have hd := pv_drop es j hj
  have hl := pv_len es
  have hld := pv_len (es.drop j)
  rw [List.length_drop] at hld
  obtain ⟨b, o, e, hb, hc⟩ := h (by omega)
  injection e with e
  injection e with e1 e2 _
  subst e1 e2
  refine ⟨g, off + j * 2, rfl, hb, fun i hi => ?_⟩
  have h1 := hc (j * 2 + i) (by omega)
  rw [← Nat.add_assoc] at h1
  rw [h1]
  congr 1
  have : (pv (es.drop j))[i]? = (pv es)[j * 2 + i]? := by rw [hd, List.getElem?_drop]
  rw [List.getElem?_eq_getElem hi, List.getElem?_eq_getElem (by omega)] at this
  exact (Option.some.inj this).symm
theorem atE_eq {ds : List Ent} {k : ByteArray} {j : Nat} (hj : j ≤ ds.length) (hlo : ∀ m (h : m < ds.length), m < j → blt ds[m].1 k = true) (hhi : ∀ h : j < ds.length, blt ds[j].1 k = false) : atE ds k = j := by
  unfold atE
  induction ds generalizing j with
  | nil => simp at hj; simp [hj]
  | cons d ds ih =>
    cases j with
    | zero =>
      have := hhi (by simp)
      simp only [List.getElem_cons_zero] at this
      simp [List.takeWhile_cons, this]
    | succ j =>
      have h0 := hlo 0 (by simp) (Nat.succ_pos _)
      simp only [List.getElem_cons_zero] at h0
      have := ih (j := j) (by simpa using hj) (fun m h h1 => hlo (m + 1) (Nat.succ_lt_succ h) (by omega)) (fun h => hhi (Nat.succ_lt_succ h))
      simp [List.takeWhile_cons, h0, this]
theorem rwith_end {w w5 : World} {es ds : List Ent} {k v : ByteArray} {j c5 : Nat} {A5 : Option Addr} (hp : putErr es k v = 0) (hds : delE es k = ds) (hat : atE ds k = j) (hj : j ≤ ds.length)
    (ho : w5.ownsRow w.heap.size 81 2 (.slice A5 (j + 1 + (ds.length - j)) c5) (j + 1 + (ds.length - j)) (pv (ds.take j) ++ Value.string k :: Value.string v :: pv (ds.drop j))) (hb : Below w.heap.size w w5) (hr : RiseE es) :
    RWithQ es k v w (.returned (.tuple #[.slice A5 (j + 1 + (ds.length - j)) c5, .int .i64 0])) w5 := by
  have hw : withL es k v = ds.take j ++ (k, v) :: ds.drop j := by
    unfold withL
    rw [if_pos hp, putE_ref hr, hds, hat]
  have hlen : (withL es k v).length = j + 1 + (ds.length - j) := by
    rw [hw, List.length_append, List.length_cons, List.length_take, List.length_drop]
    omega
  have hpv : pv (withL es k v) = pv (ds.take j) ++ Value.string k :: Value.string v :: pv (ds.drop j) := by rw [hw, pv_app, pv_cons]
  exact ⟨A5, c5, by rw [hlen, hp], by rw [hpv]; exact owns_mem ho, hb⟩
set_option maxHeartbeats 2000000 in
set_option maxRecDepth 20000 in
theorem rwith_any (A : Option Addr) (c : Nat) (es : List Ent) (k v : ByteArray) (w : World) (hm : Mem w w.heap.size A (pv es)) (hb : Bk es) :
    Calls Tryz.prog 31 #[.slice A es.length c, .string k, .string v] w (RWithQ es k v w) := by
  obtain ⟨i0, hi, hz0, hz1, hz2⟩ := info_parts infoPair2
  have HM := hide hm
  have HBk := hide hb
  have hl := hb.len
  have HA := hide (rat_any A c es k w hm (by omega))
  have HW := fun w1 (h : Below w.heap.size w w1) => hide (rwithout_any A c es k w1 ((hm.below h).mono h.size) (by omega))
  clear hm hb
  by_cases harg : k.size = 0 ∨ 40 < k.size ∨ 200 < v.size
  · have HP := hide (putErr_arg (es := es) harg)
    have HR := hide (show RWithQ es k v w (.returned (.tuple #[.slice A es.length c, .int .i64 2])) w from ⟨A, c, by rw [HP.out, withL_bad HP.out (by decide)], by rw [withL_bad HP.out (by decide)]; exact HM.out, Below.refl _ _⟩)
    go_enter Tryz.func31, Tryz.ntmps31
    go_wp2_with fail
    all_goals exact bodyPost_ret (v := .tuple #[.slice A es.length c, .int .i64 2]) (by simp [results, Tryz.results31, go_sem]) rfl HR.out
  · have HArg := hide harg
    go_enter Tryz.func31, Tryz.ntmps31
    go_wp2_with fail
    refine HA.out.mono ?_
    rintro e w2 ⟨r, rfl, ha, rfl⟩
    by_cases hlim : r < 0 ∧ 30 ≤ es.length
    · have hn : lookup es k = none := by
        rcases ha.get HBk.out.rise with ⟨_, h⟩ | ⟨i, h, _⟩
        · exact h
        · omega
      have HP := hide (putErr_lim HArg.out hn hlim.2)
      have HR := hide (show RWithQ es k v w (.returned (.tuple #[.slice A es.length c, .int .i64 6])) w from ⟨A, c, by rw [HP.out, withL_bad HP.out (by decide)], by rw [withL_bad HP.out (by decide)]; exact HM.out, Below.refl _ _⟩)
      obtain ⟨hr0, hl30⟩ := hlim
      clear ha hn
      go_wp2_with fail
      all_goals trace_state
      all_goals exact bodyPost_ret (v := .tuple #[.slice A es.length c, .int .i64 6]) (by simp [results, Tryz.results31, go_sem]) rfl HR.out
    · have HP := hide (putErr_zero HArg.out (fun h => hlim ⟨by
        rcases ha with ⟨h1, _⟩ | ⟨i, h1, h2, h3⟩
        · omega
        · rw [← h3, lookup_hit HBk.out.rise h2] at h
          exact absurd h.1 (by simp), h.2⟩))
      have HW0 := hide (HW w (Below.refl _ _)).out
      clear ha HW HA
      go_wp2_with fail
      all_goals (
        refine HW0.out.mono ?_
        rintro e w2 ⟨v', rfl, ho, hbw⟩
        have HO := hide ho
        have HBw := hide hbw
        have hdl : (delE es k).length ≤ 30 := Nat.le_trans (List.length_filter_le _ _) hl
        obtain ⟨A', c', rfl⟩ := owns_slice ho
        have HM2 := hide (owns_mem ho)
        clear ho hbw HW0
        generalize hds : delE es k = ds at HO hdl HM2
        have HDs := hide hds
        clear hds
        go_upto_region 7 with fail
        go_loopw [9] (fun x wr => ∃ j : Nat, j ≤ ds.length ∧ x = .int .i64 j ∧ (∀ m (h : m < ds.length), m < j → blt ds[m].1 k = true) ∧ w2 = wr) (fun x _ => ds.length - (Go.RowKit.intOf x).toNat)
        case atStart => exact ⟨0, Nat.zero_le _, rfl, fun m h h0 => absurd h0 (Nat.not_lt_zero _), rfl⟩
        case round =>
          obtain ⟨j, hj, rfl, hlo, rfl⟩ := hrel
          have HLo := hide hlo
          clear hlo
          by_cases hgo : ∃ h : j < ds.length, blt ds[j].1 k = true
          · obtain ⟨hlt, hbt⟩ := hgo
            obtain ⟨g, off, rfl, hg, hc⟩ := prs_at HM2.out (by omega)
            obtain ⟨f0, f1⟩ := hc j hlt
            have HBt := hide hbt
            unfold blt at hbt
            clear hc f1
            generalize hkj : ds[j].1 = kj at f0 hbt
            have HKj := hide hkj
            clear hkj
            go_wp2_with fail
            go_roundw
            case rel => exact ⟨j + 1, by omega, by go_num, fun m h h1 => (by by_cases e : m < j; exact HLo.out m h e; obtain rfl : m = j := (by omega); exact HBt.out), by trivial⟩
            case measure => (try simp [Go.RowKit.intOf]); omega
          · have HAt := hide (atE_eq hj HLo.out (fun h => by
              cases hh : blt ds[j].1 k with
              | false => rfl
              | true => exact absurd ⟨h, hh⟩ hgo))
            have hj30 : (j : Int) ≤ (ds.length : Int) := by omega
            by_cases hlt : j < ds.length
            · obtain ⟨g, off, rfl, hg, hc⟩ := prs_at HM2.out (by omega)
              obtain ⟨f0, f1⟩ := hc j hlt
              have hbf : blt ds[j].1 k = false := by
                cases hh : blt ds[j].1 k with
                | false => rfl
                | true => exact absurd ⟨hlt, hh⟩ hgo
              unfold blt at hbf
              clear hc f1 hgo
              generalize hkj : ds[j].1 = kj at f0 hbf
              clear hkj
              have hd2 : (pv (ds.take j)).length = j * 2 := by rw [pv_len, List.length_take]; omega
              have htk := pv_take ds j hj
              have hcap' := owns_cap HO.out
              have hcap : (j : Int) ≤ (c' : Int) := by omega
              have hma : Mem w2 w2.heap.size (some ⟨g, off, none⟩) (pv (ds.take j)) := by rw [htk]; exact HM2.out.cut _
              have HMa := hide hma
              have HD2 := hide hd2
              clear hd2 htk hma
              go_wp2_with (refine wpList_app _ rfl _ _ 30 rfl w.heap.size 81 i0 (.agg #[.string ByteArray.empty, .string ByteArray.empty]) 2 32 Tryz.underlying30 hi hz0 hz1 hz2 rfl (by decide) (.slice none 0 0) 0 [] rfl ⟨rfl, .inl ⟨rfl, rfl⟩⟩ (some ⟨g, off, none⟩) j c' (pv (ds.take j)) rfl HD2.out HMa.out (pv_one _) ?c1 ?c2 HBw.out.size ?_)
              case c1 => unfold maxLen; omega
              case c2 => omega
              intro A3 c3 w3 ho3 hg3 hn3
              have hl3 : Below w2.heap.size w2 w3 := (Below.refl _ _).grown hg3 (Nat.le_refl _) (fun g hg => by cases hg)
              have hl3b : Below w2.heap.size w2 (w3.alloc (.cells [Value.string k, Value.string v].toArray 81)) := hl3.alloc hl3.size _
              have ho3b := owns_block ho3 (w' := w3.alloc (.cells [Value.string k, Value.string v].toArray 81)) (fun g hg => Below.heap_alloc w3 _ g (ho3.lt g hg).2)
              have hmp := (Whole.new w3 [Value.string k, Value.string v] 81).mem
              have hbs : w.heap.size ≤ w3.heap.size + 1 := by have := HBw.out.size; have := hl3.size; omega
              have HL3 := hide hl3b
              have HO3 := hide ho3b
              have HMp := hide hmp
              have HN3 := hide hn3
              clear ho3 hg3 hn3 hl3 hl3b ho3b hmp
              go_wp2_with (refine wpList_app _ rfl _ _ 30 rfl w.heap.size 81 i0 (.agg #[.string ByteArray.empty, .string ByteArray.empty]) 2 32 Tryz.underlying30 hi hz0 hz1 hz2 rfl (by decide) (.slice A3 j c3) j (pv (ds.take j)) rfl HO3.out (some ⟨w3.heap.size, 0, none⟩) 1 1 [Value.string k, Value.string v] rfl rfl HMp.out ?d1 ?d2 ?d3 ?d4 ?_)
              case d1 => exact fun u hu => by simp at hu; rcases hu with rfl | rfl <;> rfl
              case d2 => unfold maxLen; omega
              case d3 => omega
              case d4 => simpa using hbs
              intro A4 c4 w4 ho4 hg4 hn4
              have hl4 : Below w2.heap.size w2 w4 := HL3.out.grown hg4 HL3.out.size (fun q hq => (HN3.out q hq).elim (fun h => by cases h) (fun h => h))
              have HL4 := hide hl4
              have HO4 := hide ho4
              have HMd := hide (((HM2.out.below hl4).mono hl4.size).dropP j hj)
              have hbs4 : w.heap.size ≤ w4.heap.size := by have := HBw.out.size; have := hl4.size; omega
              have hdd : (pv (ds.drop j)).length = (ds.length - j) * 2 := by rw [pv_len, List.length_drop]
              have HDD := hide hdd
              have hcj : ¬ c' = j := by omega
              clear ho4 hg4 hn4 hl4 hdd
              go_wp2_with (refine wpList_app _ rfl _ _ 30 rfl w.heap.size 81 i0 (.agg #[.string ByteArray.empty, .string ByteArray.empty]) 2 32 Tryz.underlying30 hi hz0 hz1 hz2 rfl (by decide) (.slice A4 (j + 1) c4) (j + 1) (pv (ds.take j) ++ [Value.string k, Value.string v]) rfl HO4.out (some ⟨g, off + j * 2, none⟩) (ds.length - j) (c' - j) (pv (ds.drop j)) rfl HDD.out HMd.out (pv_one _) ?e1 ?e2 hbs4 ?_)
              case e1 => unfold maxLen; omega
              case e2 => omega
              intro A5 c5 w5 ho5 hg5 hn5
              have HR := hide (rwith_end (es := es) (k := k) (v := v) HP.out HDs.out HAt.out hj ho5 ((HBw.out.trans (HL4.out.mono HBw.out.size)).grown hg5 hbs4 (fun q hq => (HO4.out.lt q hq).1)))
              clear ho5 hg5 hn5
              go_wp2_with fail
              exact bodyPost_ret (v := .tuple #[.slice A5 (j + 1 + (ds.length - j)) c5, .int .i64 0]) (by simp [results, Tryz.results31, go_sem]) rfl (HR.out HBk.out.rise)
            · clear hgo
              cases A' with
              | none =>
                obtain rfl : j = ds.length := by omega
                have hd0 : ds = [] := by
                  by_cases h : 0 < ds.length
                  · obtain ⟨_, _, h, _⟩ := HM2.out.get (by rw [pv_len]; omega)
                    cases h
                  · exact List.eq_nil_of_length_eq_zero (by omega)
                subst hd0
                go_wp2_with (refine wpList_app _ rfl _ _ 30 rfl w.heap.size 81 i0 (.agg #[.string ByteArray.empty, .string ByteArray.empty]) 2 32 Tryz.underlying30 hi hz0 hz1 hz2 rfl (by decide) (.slice none 0 0) 0 [] rfl ⟨rfl, .inl ⟨rfl, rfl⟩⟩ none 0 _ [] rfl rfl Mem.nil (fun u hu => by cases hu) ?f1 ?f2 HBw.out.size ?_)
                case f1 => unfold maxLen; omega
                case f2 => omega
                intro A3 c3 w3 ho3 hg3 hn3
                have hl3 : Below w2.heap.size w2 w3 := (Below.refl _ _).grown hg3 (Nat.le_refl _) (fun g hg => by cases hg)
                have hl3b : Below w2.heap.size w2 (w3.alloc (.cells [Value.string k, Value.string v].toArray 81)) := hl3.alloc hl3.size _
                have ho3b := owns_block ho3 (w' := w3.alloc (.cells [Value.string k, Value.string v].toArray 81)) (fun g hg => Below.heap_alloc w3 _ g (ho3.lt g hg).2)
                have hmp := (Whole.new w3 [Value.string k, Value.string v] 81).mem
                have hbs : w.heap.size ≤ w3.heap.size + 1 := by have := HBw.out.size; have := hl3.size; omega
                have HL3 := hide hl3b
                have HO3 := hide ho3b
                have HMp := hide hmp
                have HN3 := hide hn3
                clear ho3 hg3 hn3 hl3 hl3b ho3b hmp
                go_wp2_with (refine wpList_app _ rfl _ _ 30 rfl w.heap.size 81 i0 (.agg #[.string ByteArray.empty, .string ByteArray.empty]) 2 32 Tryz.underlying30 hi hz0 hz1 hz2 rfl (by decide) (.slice A3 0 c3) 0 [] rfl HO3.out (some ⟨w3.heap.size, 0, none⟩) 1 1 [Value.string k, Value.string v] rfl rfl HMp.out ?g1 ?g2 ?g3 ?g4 ?_)
                case g1 => exact fun u hu => by simp at hu; rcases hu with rfl | rfl <;> rfl
                case g2 => unfold maxLen; omega
                case g3 => omega
                case g4 => simpa using hbs
                intro A4 c4 w4 ho4 hg4 hn4
                have hl4 : Below w2.heap.size w2 w4 := HL3.out.grown hg4 HL3.out.size (fun q hq => (HN3.out q hq).elim (fun h => by cases h) (fun h => h))
                have HL4 := hide hl4
                have HO4 := hide ho4
                have hbs4 : w.heap.size ≤ w4.heap.size := by have := HBw.out.size; have := hl4.size; omega
                clear ho4 hg4 hn4 hl4
                go_wp2_with (refine wpList_app _ rfl _ _ 30 rfl w.heap.size 81 i0 (.agg #[.string ByteArray.empty, .string ByteArray.empty]) 2 32 Tryz.underlying30 hi hz0 hz1 hz2 rfl (by decide) (.slice A4 1 c4) 1 [Value.string k, Value.string v] rfl HO4.out none 0 _ [] rfl rfl Mem.nil (fun u hu => by cases hu) ?k1 ?k2 hbs4 ?_)
                case k1 => unfold maxLen; omega
                case k2 => omega
                intro A5 c5 w5 ho5 hg5 hn5
                have HR := hide (rwith_end (j := 0) (ds := []) (es := es) (k := k) (v := v) HP.out HDs.out HAt.out hj ho5 ((HBw.out.trans (HL4.out.mono HBw.out.size)).grown hg5 hbs4 (fun q hq => (HO4.out.lt q hq).1)))
                clear ho5 hg5 hn5
                go_wp2_with fail
                exact bodyPost_ret (v := .tuple #[.slice A5 1 c5, .int .i64 0]) (by simp [results, Tryz.results31, go_sem]) rfl (HR.out HBk.out.rise)
              | some ad =>
                obtain ⟨g, off, hgo⟩ : ∃ g off, ad = ⟨g, off, none⟩ := by
                  rcases HO.out.2 with ⟨e, _⟩ | ⟨g, cap, cur, e, _⟩
                  · cases e
                  · injection e with e
                    injection e with e
                    exact ⟨g, 0, e⟩
                subst hgo
                have hjI : ¬ (j : Int) < (ds.length : Int) := by omega
                have hd2 : (pv (ds.take j)).length = j * 2 := by rw [pv_len, List.length_take]; omega
                have htk := pv_take ds j hj
                have hcap' := owns_cap HO.out
                have hcap : (j : Int) ≤ (c' : Int) := by omega
                have hma : Mem w2 w2.heap.size (some ⟨g, off, none⟩) (pv (ds.take j)) := by rw [htk]; exact HM2.out.cut _
                have HMa := hide hma
                have HD2 := hide hd2
                clear hd2 htk hma
                go_wp2_with (refine wpList_app _ rfl _ _ 30 rfl w.heap.size 81 i0 (.agg #[.string ByteArray.empty, .string ByteArray.empty]) 2 32 Tryz.underlying30 hi hz0 hz1 hz2 rfl (by decide) (.slice none 0 0) 0 [] rfl ⟨rfl, .inl ⟨rfl, rfl⟩⟩ (some ⟨g, off, none⟩) j c' (pv (ds.take j)) rfl HD2.out HMa.out (pv_one _) ?c1x ?c2x HBw.out.size ?_)
                case c1x => unfold maxLen; omega
                case c2x => omega
                intro A3 c3 w3 ho3 hg3 hn3
                have hl3 : Below w2.heap.size w2 w3 := (Below.refl _ _).grown hg3 (Nat.le_refl _) (fun g hg => by cases hg)
                have hl3b : Below w2.heap.size w2 (w3.alloc (.cells [Value.string k, Value.string v].toArray 81)) := hl3.alloc hl3.size _
                have ho3b := owns_block ho3 (w' := w3.alloc (.cells [Value.string k, Value.string v].toArray 81)) (fun g hg => Below.heap_alloc w3 _ g (ho3.lt g hg).2)
                have hmp := (Whole.new w3 [Value.string k, Value.string v] 81).mem
                have hbs : w.heap.size ≤ w3.heap.size + 1 := by have := HBw.out.size; have := hl3.size; omega
                have HL3 := hide hl3b
                have HO3 := hide ho3b
                have HMp := hide hmp
                have HN3 := hide hn3
                clear ho3 hg3 hn3 hl3 hl3b ho3b hmp
                go_wp2_with (refine wpList_app _ rfl _ _ 30 rfl w.heap.size 81 i0 (.agg #[.string ByteArray.empty, .string ByteArray.empty]) 2 32 Tryz.underlying30 hi hz0 hz1 hz2 rfl (by decide) (.slice A3 j c3) j (pv (ds.take j)) rfl HO3.out (some ⟨w3.heap.size, 0, none⟩) 1 1 [Value.string k, Value.string v] rfl rfl HMp.out ?d1x ?d2x ?d3x ?d4x ?_)
                case d1x => exact fun u hu => by simp at hu; rcases hu with rfl | rfl <;> rfl
                case d2x => unfold maxLen; omega
                case d3x => omega
                case d4x => simpa using hbs
                intro A4 c4 w4 ho4 hg4 hn4
                have hl4 : Below w2.heap.size w2 w4 := HL3.out.grown hg4 HL3.out.size (fun q hq => (HN3.out q hq).elim (fun h => by cases h) (fun h => h))
                have HL4 := hide hl4
                have HO4 := hide ho4
                have HMd := fun A => hide (show Mem w4 w4.heap.size A (pv (ds.drop j)) by rw [List.drop_eq_nil_of_le (by omega)]; exact Mem.nil)
                have hbs4 : w.heap.size ≤ w4.heap.size := by have := HBw.out.size; have := hl4.size; omega
                have hdd : (pv (ds.drop j)).length = (ds.length - j) * 2 := by rw [pv_len, List.length_drop]
                have HDD := hide hdd
                clear ho4 hg4 hn4 hl4 hdd
                go_wp2_with (refine wpList_app _ rfl _ _ 30 rfl w.heap.size 81 i0 (.agg #[.string ByteArray.empty, .string ByteArray.empty]) 2 32 Tryz.underlying30 hi hz0 hz1 hz2 rfl (by decide) (.slice A4 (j + 1) c4) (j + 1) (pv (ds.take j) ++ [Value.string k, Value.string v]) rfl HO4.out _ (ds.length - j) _ (pv (ds.drop j)) rfl HDD.out (HMd _).out (pv_one _) (by unfold maxLen; omega) (by omega) hbs4 ?_)
                all_goals (
                  intro A5 c5 w5 ho5 hg5 hn5
                  have HR := hide (rwith_end (es := es) (k := k) (v := v) HP.out HDs.out HAt.out hj ho5 ((HBw.out.trans (HL4.out.mono HBw.out.size)).grown hg5 hbs4 (fun q hq => (HO4.out.lt q hq).1)))
                  clear ho5 hg5 hn5
                  go_wp2_with fail
                  exact bodyPost_ret (v := .tuple #[.slice A5 (j + 1 + (ds.length - j)) c5, .int .i64 0]) (by simp [results, Tryz.results31, go_sem]) rfl (HR.out HBk.out.rise)))
end Go.Proofs.YtokibbgahefkbaaGreatDoor.Fe
namespace Go.Proofs.YtokibbgahefkbaaGreatDoor.Fe
open Go.RowKit Go.Shelf

/-- does a key begin with a text? -/
def preB (s k : ByteArray) : Bool := Lib.hasPrefix k.data.toList s.data.toList
def keysW (es : List Ent) (s : ByteArray) : List ByteArray := (es.filter fun e => preB s e.1).map (·.1)
theorem keysW_take (es : List Ent) (s : ByteArray) (j : Nat) (h : j < es.length) : keysW (es.take (j + 1)) s = if preB s es[j].1 then keysW (es.take j) s ++ [es[j].1] else keysW (es.take j) s := by
  rw [List.take_succ_eq_append_getElem h]
  unfold keysW
  rw [List.filter_append, List.map_append]
  cases e : preB s es[j].1 <;> simp [e]
theorem keysW_pre (es : List Ent) (s : ByteArray) (j : Nat) : keysW (es.take j) s <+: keysW es s := by
  conv => rhs; rw [← List.take_append_drop j es]
  unfold keysW
  rw [List.filter_append, List.map_append]
  exact List.prefix_append _ _
theorem keysW_len (es : List Ent) (s : ByteArray) : (keysW es s).length ≤ es.length := by
  unfold keysW
  rw [List.length_map]
  exact List.length_filter_le _ _
theorem preB_long {s k : ByteArray} (h : k.size < s.size) : preB s k = false := by
  unfold preB Lib.hasPrefix
  rw [← Bool.not_eq_true, List.isPrefixOf_iff_prefix]
  intro hp
  have := hp.length_le
  rw [size_list, size_list] at this
  omega
theorem extract_list (k : ByteArray) (n : Nat) : (k.extract 0 n).data.toList = k.data.toList.take n := by
  rw [ByteArray.data_extract, Array.toList_extract]
  simp
theorem preB_eq {s k : ByteArray} (h : s.size ≤ k.size) : ((k.extract 0 s.size).toList == s.toList) = preB s k := by
  rw [toList_eq, toList_eq, extract_list]
  unfold preB Lib.hasPrefix
  rw [Bool.eq_iff_iff, beq_iff_eq, List.isPrefixOf_iff_prefix, List.prefix_iff_eq_take, size_list]
  exact ⟨fun h => h.symm, fun h => h.symm⟩
theorem strs_one (l : List ByteArray) : ∀ v ∈ strs l, v.oneCell' = true := by
  intro v hv
  obtain ⟨s, _, rfl⟩ := List.mem_map.1 hv
  rfl
theorem strs_app (a b : List ByteArray) : strs (a ++ b) = strs a ++ strs b := by simp [strs]
theorem infoStr : (Tryz.prog.info? 9).map (fun i => (i.zero, i.size, i.bytes)) = some (some (.string ByteArray.empty), 1, 16) := by kernel_rfl
/-- keys, in a row of their own -/
def KeysQ (l : List ByteArray) (w : World) (e : Ending) (w' : World) : Prop := ∃ A c, e = .returned (.slice A l.length c) ∧ w'.ownsRow w.heap.size 9 1 (.slice A l.length c) l.length (strs l) ∧ Below w.heap.size w w'
set_option maxHeartbeats 2000000 in
set_option maxRecDepth 20000 in
theorem rkeys_any (A : Option Addr) (c : Nat) (es : List Ent) (s : ByteArray) (w : World) (hm : Mem w w.heap.size A (pv es)) (hl : es.length ≤ 100000) :
    Calls Tryz.prog 15 #[.slice A es.length c, .string s] w (KeysQ (keysW es s) w) := by
  obtain ⟨i0, hi, hz0, hz1, hz2⟩ := info_parts infoStr
  have HM := hide hm
  clear hm
  go_enter Tryz.func15, Tryz.ntmps15
  go_upto_region 3 with fail
  go_loopw [5, 6] (fun x y wr => ∃ j : Nat, j ≤ es.length ∧ y = .int .i64 j ∧ wr.ownsRow w.heap.size 9 1 x (keysW (es.take j) s).length (strs (keysW (es.take j) s)) ∧ Below w.heap.size w wr) (fun _ y _ => es.length - (Go.RowKit.intOf y).toNat)
  case atStart => exact ⟨0, Nat.zero_le _, rfl, ⟨by simp [strs, keysW], .inl ⟨rfl, rfl⟩⟩, Below.refl _ _⟩
  case round =>
    obtain ⟨j, hj, rfl, hown, hb⟩ := hrel
    have HO := hide hown
    have HB := hide hb
    clear hown hb
    by_cases hlt : j < es.length
    · obtain ⟨g, off, rfl, hg, hc⟩ := prs_at ((HM.out.below HB.out).mono HB.out.size) (by omega)
      obtain ⟨f0, f1⟩ := hc j hlt
      have HD := hide (keysW_take es s j hlt)
      have hlen : (keysW (es.take j) s).length ≤ 100000 := Nat.le_trans (keysW_len _ _) (by rw [List.length_take]; omega)
      clear hc f1
      by_cases hsz : s.size ≤ es[j].1.size
      · have hpe := preB_eq hsz
        generalize hk : es[j].1 = kj at *
        have HK := hide hk
        clear hk
        have hszI : (s.size : Int) ≤ (kj.size : Int) := by omega
        cases hp : preB s kj with
        | false =>
          rw [hp] at hpe HD
          clear hp
          go_wp2_with fail
          go_roundw
          case rel => exact ⟨j + 1, by omega, by go_num, by rw [HD.out, if_neg (by decide)]; exact HO.out, HB.out⟩
          case measure => (try simp [Go.RowKit.intOf]); omega
        | true =>
          rw [hp] at hpe HD
          clear hp
          generalize hds : keysW (es.take j) s = ds at *
          have HDs := hide hds
          clear hds
          obtain ⟨A', c', hx⟩ := owns_slice HO.out
          subst hx
          have hb2 : Below wr.heap.size wr (wr.alloc (.cells [Value.string kj].toArray 9)) := (Below.refl _ _).alloc (Nat.le_refl _) _
          have hw2 := Whole.new wr [Value.string kj] 9
          have HO1 := hide (owns_block HO.out (fun g hg => hb2.block g (HO.out.lt g hg).2))
          have HM1 := hide (hw2.mem)
          have HB2 := hide (HB.out.trans (hb2.mono HB.out.size))
          clear hb2 hw2
          go_wp2_with (refine wpList_app _ rfl _ _ 43 rfl w.heap.size 9 i0 (.string ByteArray.empty) 1 16 Tryz.underlying43 hi hz0 hz1 hz2 rfl (by decide) (.slice A' ds.length c') ds.length (strs ds) rfl HO1.out (some ⟨wr.heap.size, 0, none⟩) 1 1 [Value.string kj] rfl rfl HM1.out ?c1 ?c2 ?c3 ?c4 ?_)
          case c1 => rfl
          case c2 => unfold maxLen; omega
          case c3 => omega
          case c4 => have := HB.out.size; simp; omega
          intro A2 c2 w2 ho hg _
          have HO2 := hide ho
          have HB3 := hide (HB2.out.grown hg HB2.out.size (fun g hg => (HO1.out.lt g hg).1))
          clear ho hg
          go_wp2_with fail
          go_roundw
          case rel => exact ⟨j + 1, by omega, by go_num, by
            have e := HD.out
            simp only [if_true] at e
            rw [e, List.length_append, strs_app]
            exact HO2.out, HB3.out⟩
          case measure => (try simp [Go.RowKit.intOf]); omega
      · have hpl := preB_long (s := s) (k := es[j].1) (by omega)
        rw [hpl] at HD
        generalize es[j].1 = kj at *
        have hszI : ¬ (s.size : Int) ≤ (kj.size : Int) := by omega
        clear hpl
        go_wp2_with fail
        go_roundw
        case rel => exact ⟨j + 1, by omega, by go_num, by rw [HD.out, if_neg (by decide)]; exact HO.out, HB.out⟩
        case measure => (try simp [Go.RowKit.intOf]); omega
    · obtain rfl : j = es.length := by omega
      have ho := HO.out
      rw [List.take_length] at ho
      obtain ⟨A', c', rfl⟩ := owns_slice ho
      have HO9 := hide ho
      clear ho
      go_wp2_with fail
      go_ret
      exact ⟨A', c', rfl, HO9.out, HB.out⟩
end Go.Proofs.YtokibbgahefkbaaGreatDoor.Fe
