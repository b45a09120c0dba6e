/- The walk of PruneAgain: it answers true, whatever the names and the policy; what stood in memory stays. -/
import Derived.Test.YtbajnkkekibdmaaDoorW22
import Derived.Test.YtbajnkkekibdmaaDoorW23
namespace Go.Proofs.YtbajnkkekibdmaaDoor
open Go.RowKit Go.Shelf Go.Lib

/-- what is known of the names that are kept once -/
structure KL (ss : List ByteArray) (p : Po) (l : List ByteArray) : Prop where
  err : Pl.err (bss l) p.pol = 0
  len : (pickN l (Pl.keep (bss l) p.pol)).length = l.length
  most : (l.length : Int) ≤ mostN p p.rs.length + (unstN ss ss.length : Int)
  best : ∀ b, bestN ss ss.length = some b → someN p p.rs.length = true → b ∈ l
  sub : ∀ s ∈ l, s ∈ ss
  small : l.length ≤ 256
  last : 0 ≤ p.last ∧ p.last ≤ 64
  rlen : p.rs.length ≤ 8
  plen : p.ps.length ≤ 32
  cnts : ∀ r ∈ p.rs, 0 ≤ r.2 ∧ r.2 ≤ 64
theorem KL.mk_ {ss : List ByteArray} {p : Po} (h : Pl.err (bss ss) p.pol = 0) (hsp : ∀ r ∈ p.rs, 0 ≤ r.1 ∧ r.1 < 4294967296) : KL ss p (pickN ss (Pl.keep (bss ss) p.pol)) := by
  have h1 := (Pl.err_iff _ _).1 h
  obtain ⟨h3, h4, h5, h6, _⟩ := Pl.may_parts h1.1
  refine ⟨again_err h, again_len h, most_le h (fun r hr => (hsp r hr).1), fun b hb hs => bestN_mem h (fun r hr => (hsp r hr).1) hb hs, pickN_sub _ _, ?_, h3, h4, by rw [← bss_len]; exact h5, fun r hr => (h6 r hr).2⟩
  have h7 := ((Pl.err_iff _ _).1 (again_err h)).2.1
  rwa [bss_len] at h7
/-- what the first call of kept hands back -/
def KF (ss : List ByteArray) (p : Po) (w : World) (e : Ending) (w' : World) : Prop :=
  (e = .returned (.tuple #[.slice none 0 0, .bool false]) ∧ Below w.heap.size w w') ∨
  ∃ (l : List ByteArray) (A : Option Addr) (c : Nat), KL ss p l ∧ e = .returned (.tuple #[.slice A l.length c, .bool true]) ∧ Below w.heap.size w w' ∧ Mem w' w'.heap.size A (strs l)
/-- what the second call of kept hands back -/
def KS (l : List ByteArray) (w : World) (e : Ending) (w' : World) : Prop :=
  ∃ (A : Option Addr) (c : Nat), e = .returned (.tuple #[.slice A l.length c, .bool true]) ∧ Below w.heap.size w w'
section
variable {w W : World} {p : Po} {RA PA A : Option Addr} {ss : List ByteArray}
theorem InAt.kept1 (h : InAt w p RA PA A ss) (hb : Below w.heap.size w W) {A2 : Option Addr} (hm : Mem W W.heap.size A2 (rules p.rs)) (rc pc cap : Nat) :
    Calls Tryd.prog 16 #[.slice A ss.length cap, .agg #[.int .i64 p.last, .slice A2 p.rs.length rc, .slice PA p.ps.length pc]] W (KF ss p W) := by
  have g := h.at_ hb
  refine (kept_any p A2 PA rc pc A cap ss W (h.polOf hb hm) g.names g.texts g.spans).mono ?_
  intro e w' hk
  unfold KeptRes at hk
  by_cases he : Pl.err (bss ss) p.pol = 0
  · rw [if_pos he] at hk
    obtain ⟨A1, c, h1, h2, h3⟩ := hk
    exact .inr ⟨_, A1, c, KL.mk_ he h.spans, h1, h2, h3⟩
  · rw [if_neg he] at hk
    exact .inl hk
theorem InAt.kept2 (h : InAt w p RA PA A ss) (hb : Below w.heap.size w W) {A2 A4 : Option Addr} (hm : Mem W W.heap.size A2 (rules p.rs)) {l : List ByteArray} (hl : KL ss p l) (hn : Mem W W.heap.size A4 (strs l)) (rc pc cap : Nat) :
    Calls Tryd.prog 16 #[.slice A4 l.length cap, .agg #[.int .i64 p.last, .slice A2 p.rs.length rc, .slice PA p.ps.length pc]] W (KS l W) := by
  refine (kept_any p A2 PA rc pc A4 cap l W (h.polOf hb hm) hn (fun s hs => h.texts s (hl.sub s hs)) h.spans).mono ?_
  intro e w' hk
  unfold KeptRes at hk
  rw [if_pos hl.err, hl.len] at hk
  obtain ⟨A1, c, h1, h2, _⟩ := hk
  exact ⟨A1, c, h1, h2⟩
theorem Bx.again {W' : World} {b b' : Nat} {t t' : TypeId} {p' : Po} {RA' PA' : Option Addr} {rc pc rc' pc' : Nat} (h : Bx w W b t p RA PA rc pc) (h' : Bx W W' b' t' p' RA' PA' rc' pc') : Bx w W' b' t' p' RA' PA' rc' pc' :=
  ⟨h.bel.trans (h'.bel.mono h.bel.size), h'.box⟩
end
theorem aV_none : aV none = 0 := rfl
theorem aV_some (b : ByteArray) : aV (some b) = Pl.st b.data.toList := rfl
theorem bV_none : bV none = ByteArray.empty := rfl
theorem bV_some (b : ByteArray) : bV (some b) = b := rfl

set_option maxHeartbeats 4000000 in
set_option maxRecDepth 100000 in
theorem pruneAgain_any (p : Po) (RA PA : Option Addr) (rc pc : Nat) (A : Option Addr) (cap : Nat) (ss : List ByteArray) (w : World) (hin : InAt w p RA PA A ss) :
    Calls Tryd.prog 4 #[.slice A ss.length cap, .agg #[.int .i64 p.last, .slice RA p.rs.length rc, .slice PA p.ps.length pc]] w fun e w' => e = .returned (.bool true) ∧ Below w.heap.size w w' := by
  have HI := hide hin
  have HX0 := hide (Bx.start w 25 p RA PA rc pc)
  have HWk := fun W => hide (wakes_any W)
  have HSt := fun (k : Nat) (hk : k < ss.length) W => hide (stamp_any ss[k] W (hin.texts _ (List.getElem_mem hk)))
  clear hin
  go_enter Tryd.func4, Tryd.ntmps4
  go_wp2_with fail
  refine (HI.out.great HX0.out.bel _ _ _).mono ?_
  rintro e w1 ⟨b, rfl, hb, hgr⟩
  have HX1 := hide (HX0.out.next hb)
  have HGr := hide hgr
  clear hb hgr HX0
  obtain ⟨c0, c1, c2⟩ := HX1.out.cells
  cases b
  · obtain ⟨hl1, hl2, hl3⟩ := HGr.out rfl
    clear HGr
    go_wp2_with fail
    refine (HI.out.of_ HX1.out.bel hl2 _ _).mono ?_
    rintro e w3 ⟨A3, k3, rfl, hb, hm⟩
    have HX3 := hide (HX1.out.next hb)
    have HM3 := hide hm
    clear hb hm c0 c1 c2 HX1
    go_wp2_with fail
    have HX4 := hide (HX3.out.again (Bx.start w3 37 p A3 PA k3 pc))
    have HM4 := hide ((HM3.out.below ((Below.refl w3.heap.size w3).alloc (Nat.le_refl _) (.cells #[.int .i64 p.last, .slice A3 p.rs.length k3, .slice PA p.ps.length pc] 37))).mono (by simp : w3.heap.size ≤ (w3.alloc (.cells #[.int .i64 p.last, .slice A3 p.rs.length k3, .slice PA p.ps.length pc] 37)).heap.size))
    clear HX3 HM3
    generalize w3.alloc (.cells #[.int .i64 p.last, .slice A3 p.rs.length k3, .slice PA p.ps.length pc] 37) = w4 at *
    generalize w3.heap.size = bq at *
    refine (HI.out.kept1 HX4.out.bel HM4.out _ _ _).mono ?_
    rintro e w5 (⟨rfl, hb⟩ | ⟨l, A5, k5, hkl, rfl, hb, hm⟩)
    · have HX5 := hide (HX4.out.next hb)
      clear hb HX4 HM4
      go_wp2_with fail
      refine (HWk _).out.mono ?_
      rintro e w6 ⟨rfl, hb⟩
      have HX6 := hide (HX5.out.next hb)
      clear hb
      go_wp2_with fail
      go_ret
      exact ⟨rfl, HX6.out.bel⟩
    · have HX5 := hide (HX4.out.next hb)
      have HM5 := hide (HX4.out.keepMem HM4.out hb)
      have HN5 := hide hm
      have HKL := hide hkl
      clear hb hm hkl HX4 HM4
      obtain ⟨c0, c1, c2⟩ := HX5.out.cells
      go_wp2_with fail
      refine (HI.out.kept2 HX5.out.bel HM5.out HKL.out HN5.out _ _ _).mono ?_
      rintro e w6 ⟨A6, k6, rfl, hb⟩
      have HX6 := hide (HX5.out.next hb)
      have HM6 := hide (HX5.out.keepMem HM5.out hb)
      have HN6 := hide (HX5.out.keepMem HN5.out hb)
      clear hb HX5 HM5 HN5 c0 c1 c2
      obtain ⟨c0, c1, c2⟩ := HX6.out.cells
      obtain ⟨hp1, hp2⟩ := HKL.out.last
      have hp3 := HKL.out.rlen
      have hp4 := HKL.out.plen
      have hls := HKL.out.small
      go_wp2_with fail
      have hm0 := mostN_ge p 0 hp1
      have HSt0 := hide (show mostN p 0 = p.last + (p.ps.length : Int) ∧ someN p 0 = decide (0 < p.last) from ⟨by simp [mostN, Pl.sumC], by simp [someN]⟩)
      go_loop [10, 11, 12] (fun m s i => ∃ k : Nat, k ≤ p.rs.length ∧ i = .int .i64 k ∧ m = .int .i64 (mostN p k) ∧ s = .bool (someN p k)) (fun _ _ i => p.rs.length - (intOf i).toNat)
      case atStart => exact ⟨0, Nat.zero_le _, rfl, by rw [HSt0.out.1], by rw [HSt0.out.2]⟩
      case round =>
        obtain ⟨k, hk, rfl, rfl, rfl⟩ := hrel
        by_cases hlt : k < p.rs.length
        · obtain ⟨b, off, rfl, hbk, r1, r2⟩ := HM6.out.rule k hlt
          have hcn := HKL.out.cnts _ (List.getElem_mem hlt)
          have hm1 := mostN_ge p k hp1
          have hm2 := mostN_le p k hp2 hp4 hp3 (fun r hr => (HKL.out.cnts r hr).2)
          have HMs := hide (mostN_step p k hlt hcn.1)
          have HSs := hide (someN_step p k hlt)
          obtain ⟨hcn0, hcn1⟩ := hcn
          clear r1
          generalize p.rs[k].2 = cn at *
          by_cases hc : 0 < cn
          · rw [decide_eq_true hc] at HSs
            cases hs : someN p k
            · have HS2 := hide hs
              rw [hs] at HSs
              clear hs
              go_wp2
              go_round
              case rel => exact ⟨k + 1, by omega, by go_num, by rw [HMs.out], by rw [HSs.out]; rfl⟩
              case measure => simp [intOf]; omega
            · have HS2 := hide hs
              rw [hs] at HSs
              clear hs
              go_wp2
              go_round
              case rel => exact ⟨k + 1, by omega, by go_num, by rw [HMs.out], by rw [HSs.out]; rfl⟩
              case measure => simp [intOf]; omega
          · rw [decide_eq_false hc] at HSs
            cases hs : someN p k
            · have HS2 := hide hs
              rw [hs] at HSs
              clear hs
              go_wp2
              go_round
              case rel => exact ⟨k + 1, by omega, by go_num, by rw [HMs.out], by rw [HSs.out]; rfl⟩
              case measure => simp [intOf]; omega
            · have HS2 := hide hs
              rw [hs] at HSs
              clear hs
              go_wp2
              go_round
              case rel => exact ⟨k + 1, by omega, by go_num, by rw [HMs.out], by rw [HSs.out]; rfl⟩
              case measure => simp [intOf]; omega
        · obtain rfl : k = p.rs.length := by omega
          have hm1 := mostN_ge p p.rs.length hp1
          have hm2 := mostN_le p p.rs.length hp2 hp4 hp3 (fun r hr => (HKL.out.cnts r hr).2)
          have HMost := hide HKL.out.most
          have HBest := hide HKL.out.best
          generalize mostN p p.rs.length = M at *
          generalize someN p p.rs.length = so at *
          go_wp2_with fail
          have hmu : ∀ k, k ≤ ss.length → M + (unstN ss k : Int) ≤ 11000 := fun k hk => by have := unstN_le ss k; omega
          have HMU := hide hmu
          clear hmu
          go_loopw [10, 13, 14, 15, 16] (fun m b a y i wr => ∃ k : Nat, k ≤ ss.length ∧ i = .int .i64 k ∧ m = .int .i64 (M + (unstN ss k : Int)) ∧ b = .string (bV (bestN ss k)) ∧ a = .int .u32 (aV (bestN ss k) : Nat) ∧ y = .bool (bestN ss k).isSome ∧ Below w6.heap.size w6 wr) (fun _ _ _ _ i _ => ss.length - (intOf i).toNat)
          case atStart => exact ⟨0, Nat.zero_le _, rfl, by show Value.int .i64 M = Value.int .i64 (M + ((0 : Nat) : Int)); simp, rfl, rfl, rfl, Below.refl _ _⟩
          case round =>
            obtain ⟨k, hk, rfl, rfl, rfl, rfl, rfl, hb⟩ := hrel
            have HB := hide hb
            clear hb
            by_cases hlt : k < ss.length
            · obtain ⟨bn, off, rfl, hbn, hc⟩ := name_at ((HI.out.at_ (HX6.out.bel.trans (HB.out.mono HX6.out.bel.size))).names) hlt
              have f1 := hc k hlt
              have HC7 := hide (show ∀ W, Below wr.heap.size wr W → W.cell? ⟨bn, off + k, none⟩ = some (.string ss[k]) from fun W h => (h.cell (p := ⟨bn, off + k, none⟩) hbn).trans f1)
              have HU := hide (unstN_step ss k hlt)
              have HBs := hide (bestN_step ss k hlt)
              have hmk := HMU.out k hk
              have hmk0 : 0 ≤ M + (unstN ss k : Int) := by omega
              have HS7 := HSt k hlt
              clear hc
              cases hh : Pl.has ss[k].data.toList
              · have HU1 := hide (show unstN ss (k + 1) = unstN ss k + 1 from by rw [HU.out, hh]; rfl)
                have HB1 := hide (show bestN ss (k + 1) = bestN ss k from by rw [HBs.out]; unfold nstep; rw [hh]; rfl)
                rw [hh] at HS7
                clear HU HBs hh
                go_wp2_with fail
                refine (HS7 _).out.mono ?_
                rintro e w7 ⟨rfl, hb7⟩
                have HB7 := hide (HB.out.trans (hb7.mono HB.out.size))
                have f7 := HC7.out _ hb7
                clear hb7
                go_wp2_with fail
                go_roundw
                case rel => exact ⟨k + 1, by omega, by go_num, by rw [HU1.out]; go_num, by rw [HB1.out], by rw [HB1.out], by rw [HB1.out], HB7.out⟩
                case measure => simp [intOf]; omega
              · have HU1 := hide (show unstN ss (k + 1) = unstN ss k from by rw [HU.out, hh]; rfl)
                have HH := hide hh
                rw [hh] at HS7
                clear HU hh
                cases hbst : bestN ss k with
                | none =>
                  have HB1 := hide (show bestN ss (k + 1) = some ss[k] from by rw [HBs.out, hbst]; unfold nstep; rw [HH.out]; rfl)
                  clear HBs hbst
                  simp only [bV_none, aV_none, Option.isSome_none]
                  go_wp2_with fail
                  refine (HS7 _).out.mono ?_
                  rintro e w7 ⟨rfl, hb7⟩
                  have HB7 := hide (HB.out.trans (hb7.mono HB.out.size))
                  have f7 := HC7.out _ hb7
                  clear hb7
                  go_wp2_with fail
                  go_roundw
                  case rel => exact ⟨k + 1, by omega, by go_num, by rw [HU1.out], by rw [HB1.out]; rfl, by rw [HB1.out]; rfl, by rw [HB1.out]; rfl, HB7.out⟩
                  case measure => simp [intOf]; omega
                | some bb =>
                  have HBn := hide (show bestN ss (k + 1) = if Pl.newer ss[k].data.toList bb.data.toList then some ss[k] else some bb from by rw [HBs.out, hbst]; unfold nstep; rw [HH.out]; rfl)
                  have HN := hide (show Pl.newer ss[k].data.toList bb.data.toList = (decide (Pl.st bb.data.toList < Pl.st ss[k].data.toList) || (Pl.st ss[k].data.toList == Pl.st bb.data.toList && decide (bb.data.toList < ss[k].data.toList))) from rfl)
                  have hg := gtr_lists ss[k] bb
                  have HA := hide (show aV (some bb) = Pl.st bb.data.toList from rfl)
                  have HX := hide (show Pl.st ss[k].data.toList = Pl.st ss[k].data.toList from rfl)
                  clear HBs hbst
                  simp only [bV_some, aV_some, Option.isSome_some]
                  generalize Pl.newer ss[k].data.toList bb.data.toList = nw at *
                  generalize decide (bb.data.toList < ss[k].data.toList) = tt at *
                  generalize hy : Pl.st bb.data.toList = y at *
                  generalize hx : Pl.st ss[k].data.toList = x at *
                  have HX2 := hide hx
                  have HY2 := hide hy
                  clear hx hy HX
                  by_cases h1 : y < x
                  · have HB1 := hide (show bestN ss (k + 1) = some ss[k] from by rw [HBn.out, HN.out]; simp [h1])
                    go_wp2_with fail
                    refine (HS7 _).out.mono ?_
                    rintro e w7 ⟨rfl, hb7⟩
                    have HB7 := hide (HB.out.trans (hb7.mono HB.out.size))
                    have f7 := HC7.out _ hb7
                    clear hb7
                    go_wp2_with fail
                    go_roundw
                    case rel => exact ⟨k + 1, by omega, by go_num, by rw [HU1.out], by rw [HB1.out]; rfl, by rw [HB1.out]; show _ = Value.int .u32 (Pl.st _ : Nat); rw [HX2.out], by rw [HB1.out]; rfl, HB7.out⟩
                    case measure => simp [intOf]; omega
                  · by_cases h2 : x = y
                    · have h3 : ((x : Int) == (y : Int)) = true := by simp [h2]
                      have HE := hide h2
                      have HB1 := hide (show bestN ss (k + 1) = if tt then some ss[k] else some bb from by rw [HBn.out, HN.out, h2]; simp)
                      clear h2
                      cases tt
                      · go_wp2_with fail
                        refine (HS7 _).out.mono ?_
                        rintro e w7 ⟨rfl, hb7⟩
                        have HB7 := hide (HB.out.trans (hb7.mono HB.out.size))
                        have f7 := HC7.out _ hb7
                        clear hb7
                        go_wp2_with fail
                        go_roundw
                        case rel => exact ⟨k + 1, by omega, by go_num, by rw [HU1.out], by rw [HB1.out]; rfl, by rw [HB1.out]; show _ = Value.int .u32 (Pl.st _ : Nat); rw [HY2.out], by rw [HB1.out]; rfl, HB7.out⟩
                        case measure => simp [intOf]; omega
                      · go_wp2_with fail
                        refine (HS7 _).out.mono ?_
                        rintro e w7 ⟨rfl, hb7⟩
                        have HB7 := hide (HB.out.trans (hb7.mono HB.out.size))
                        have f7 := HC7.out _ hb7
                        clear hb7
                        go_wp2_with fail
                        go_roundw
                        case rel => exact ⟨k + 1, by omega, by go_num, by rw [HU1.out], by rw [HB1.out]; rfl, by rw [HB1.out]; show _ = Value.int .u32 (Pl.st _ : Nat); rw [HX2.out], by rw [HB1.out]; rfl, HB7.out⟩
                        case measure => simp [intOf]; omega
                    · have h3 : ((x : Int) == (y : Int)) = false := by simp; omega
                      have HB1 := hide (show bestN ss (k + 1) = some bb from by rw [HBn.out, HN.out]; simp [h1, h2])
                      clear h2
                      go_wp2_with fail
                      refine (HS7 _).out.mono ?_
                      rintro e w7 ⟨rfl, hb7⟩
                      have HB7 := hide (HB.out.trans (hb7.mono HB.out.size))
                      have f7 := HC7.out _ hb7
                      clear hb7
                      go_wp2_with fail
                      go_roundw
                      case rel => exact ⟨k + 1, by omega, by go_num, by rw [HU1.out], by rw [HB1.out]; rfl, by rw [HB1.out]; show _ = Value.int .u32 (Pl.st _ : Nat); rw [HY2.out], by rw [HB1.out]; rfl, HB7.out⟩
                      case measure => simp [intOf]; omega
            · obtain rfl : k = ss.length := by omega
              have HN7 := hide ((HN6.out.below HB.out).mono HB.out.size)
              have HB6 := hide (HX6.out.bel.trans (HB.out.mono HX6.out.bel.size))
              generalize bestN ss ss.length = o at *
              generalize unstN ss ss.length = u at *
              go_wp2_with fail
              have hmo := HMost.out
              have hmk := HMU.out ss.length (Nat.le_refl _)
              go_loop [19, 20] (fun f i => ∃ k : Nat, k ≤ l.length ∧ i = .int .i64 k ∧ f = .bool (fndN l (bV o) k)) (fun _ i => l.length - (intOf i).toNat)
              case atStart => exact ⟨0, Nat.zero_le _, rfl, by simp [fndN]⟩
              case round =>
                obtain ⟨k, hk, rfl, rfl⟩ := hrel
                by_cases hlt : k < l.length
                · obtain ⟨bn, off, rfl, hbn, hc⟩ := name_at HN7.out hlt
                  have f1 := hc k hlt
                  have HF := hide (fndN_step l (bV o) k hlt)
                  have hbq := beq_lists l[k] (bV o)
                  clear hc
                  generalize decide (l[k].data.toList = (bV o).data.toList) = q at *
                  cases hf : fndN l (bV o) k
                  · rw [hf] at HF
                    clear hf
                    cases q
                    · go_wp2_with fail
                      go_round
                      case rel => exact ⟨k + 1, by omega, by go_num, by rw [HF.out]; rfl⟩
                      case measure => simp [intOf]; omega
                    · go_wp2_with fail
                      go_round
                      case rel => exact ⟨k + 1, by omega, by go_num, by rw [HF.out]; rfl⟩
                      case measure => simp [intOf]; omega
                  · rw [hf] at HF
                    clear hf
                    go_wp2_with fail
                    go_round
                    case rel => exact ⟨k + 1, by omega, by go_num, by rw [HF.out]; rfl⟩
                    case measure => simp [intOf]; omega
                · obtain rfl : k = l.length := by omega
                  cases o with
                  | none =>
                    simp only [Option.isSome_none]
                    go_wp2_with fail
                    refine (HWk _).out.mono ?_
                    rintro e w9 ⟨rfl, hb⟩
                    have HB9 := hide (HB6.out.trans (hb.mono HB6.out.size))
                    clear hb
                    go_wp2_with fail
                    go_ret
                    exact ⟨rfl, HB9.out⟩
                  | some bb =>
                    simp only [Option.isSome_some]
                    cases so
                    · go_wp2_with fail
                      refine (HWk _).out.mono ?_
                      rintro e w9 ⟨rfl, hb⟩
                      have HB9 := hide (HB6.out.trans (hb.mono HB6.out.size))
                      clear hb
                      go_wp2_with fail
                      go_ret
                      exact ⟨rfl, HB9.out⟩
                    · have hfa := fndN_all (HBest.out bb rfl rfl)
                      simp only [bV_some, hfa]
                      clear hfa
                      go_wp2_with fail
                      refine (HWk _).out.mono ?_
                      rintro e w9 ⟨rfl, hb⟩
                      have HB9 := hide (HB6.out.trans (hb.mono HB6.out.size))
                      clear hb
                      go_wp2_with fail
                      go_ret
                      exact ⟨rfl, HB9.out⟩
  · go_wp2_with fail
    refine (HWk _).out.mono ?_
    rintro e w2 ⟨rfl, hb⟩
    have HX2 := hide (HX1.out.next hb)
    clear hb c0 c1 c2
    go_wp2_with fail
    go_ret
    exact ⟨rfl, HX2.out.bel⟩
end Go.Proofs.YtbajnkkekibdmaaDoor
