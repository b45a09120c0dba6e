/- Walks of forest.tree, Get, Each on empty trees; snap.Recover, Roots, List of a store that has no snapshots. Walks of pages.Open, forest.Open, boxes.Mount on a disk that is freshly formatted. Walks of fence.Is, of the law's wakes. Walk of vault.Mount on a disk that is freshly formatted; fence.Look behind it; armariumlaw26.Begins. Walk of FenceBest. What every row of this seat wants besides its walk: the witness's world with its two tables, the arguments that read again behind the call, the post out of 'nothing that stood has turned'. -/
import Derived.Test.YtnnfiicmplkakaaGreatDoorQ11
import Derived.Test.YtnnfiicmplkakaaGreatDoorQ9
import Derived.Test.YtnnfiicmplkakaaGreatDoorCards
import Derived.Test.YtnnfiicmplkakaaGreatDoorTie
import Derived.Stop.LaidErr
import Derived.WalkKit
import Derived.ProofKit
import Derived.OpenShut
import Derived.Carry
import Derived.ChangeSame
import Derived.Deep.DeepHandedRow
import Derived.Lib.LaidTab
namespace Go.Proofs.YtnnfiicmplkakaaGreatDoor
open Go.RowKit Go.Shelf

/-- a forest of empty trees, in memory -/
def For0 (W : World) (fb sb : Nat) : Prop := Whole W fb 156 (forC sb (fun _ => 0) 8)
theorem For0.below {W W' : World} {fb sb : Nat} (h : For0 W fb sb) (hb : Below W.heap.size W W') : For0 W' fb sb := Whole.below h hb (Whole.lt h)
theorem For0.tree {W : World} {fb sb : Nat} (h : For0 W fb sb) (i : Nat) (hi : i < 8) : EmT W fb (1 + i * 4) sb (kwOf i) (vwOf i) := by
  refine ⟨Whole.lt h, ?_, ?_, ?_, ?_⟩
  · rw [Whole.cell h]; exact forC_full sb _ i 0 hi (by decide)
  · rw [Whole.cell h]; exact forC_full sb _ i 1 hi (by decide)
  · rw [Whole.cell h]; exact forC_full sb _ i 2 hi (by decide)
  · rw [Whole.cell h]; exact forC_full sb _ i 3 hi (by decide)
theorem ftree_any (fb i : Nat) (W : World) (hi : i < 8) : Calls Tryz.prog 73 #[.pointer (some ⟨fb, 0, none⟩), .int .i64 (i : Int)] W fun e w' => e = .returned (.tuple #[.pointer (some ⟨fb, 1 + i * 4, none⟩), .int .i64 0]) ∧ W = w' := by
  have h : i = 0 ∨ i = 1 ∨ i = 2 ∨ i = 3 ∨ i = 4 ∨ i = 5 ∨ i = 6 ∨ i = 7 := by omega
  rcases h with rfl | rfl | rfl | rfl | rfl | rfl | rfl | rfl
  all_goals (go_enter Tryz.func73, Tryz.ntmps73; go_wp2; exact bodyPost_ret (by simp [results, Tryz.results73, go_sem]) rfl ⟨rfl, rfl⟩)
theorem fget_none (fb sb i : Nat) (key : ByteArray) (W : World) (h : For0 W fb sb) (hi : i < 8) (hkey : (key.size : Int) = kwOf i) :
    Calls Tryz.prog 48 #[.pointer (some ⟨fb, 0, none⟩), .int .i64 (i : Int), .string key] W fun e w' => e = .returned (.tuple #[.string ⟨#[]⟩, .bool false, .int .i64 0]) ∧ Below W.heap.size W w' := by
  have HT := hide (ftree_any fb i W hi)
  have HG := hide (tget_none fb (1 + i * 4) sb (kwOf i) (vwOf i) key W (h.tree i hi) (kv_bounds i hi) hkey)
  clear h hkey
  generalize (i : Int) = ii at *
  go_enter Tryz.func48, Tryz.ntmps48
  go_wp2_with fail
  refine HT.out.mono ?_
  rintro e w1 ⟨rfl, rfl⟩
  go_wp2_with fail
  refine HG.out.mono ?_
  rintro e w2 ⟨rfl, hb⟩
  have HB := hide hb
  clear hb
  go_wp2_with fail
  exact bodyPost_ret (v := .tuple #[.string ⟨#[]⟩, .bool false, .int .i64 0]) (by simp [results, Tryz.results48, go_sem]) rfl ⟨rfl, HB.out⟩
theorem feach_none (fb sb i : Nat) (fn : Fn) (c1 c2 : Array Value) (W : World) (h : For0 W fb sb) (hi : i < 8) :
    Calls Tryz.prog 62 #[.pointer (some ⟨fb, 0, none⟩), .int .i64 (i : Int), .func fn c1 c2] W fun e w' => e = .returned (.int .i64 0) ∧ Below W.heap.size W w' := by
  have HT := hide (ftree_any fb i W hi)
  have HG := hide (teach_none fb (1 + i * 4) sb (kwOf i) (vwOf i) fn c1 c2 W (h.tree i hi) (kv_bounds i hi))
  clear h
  generalize (i : Int) = ii at *
  go_enter Tryz.func62, Tryz.ntmps62
  go_wp2_with fail
  refine HT.out.mono ?_
  rintro e w1 ⟨rfl, rfl⟩
  go_wp2_with fail
  refine HG.out.mono ?_
  rintro e w2 ⟨rfl, hb⟩
  have HB := hide hb
  clear hb
  go_wp2_with fail
  go_ret
  exact ⟨rfl, HB.out⟩
/-- boxes in memory, on a forest of empty trees -/
structure Box0 (W : World) (xb fb sb : Nat) (K : Int) : Prop where
  st : Whole W xb 113 [.pointer (some ⟨fb, 0, none⟩), .int .i64 K]
  fo : For0 W fb sb
theorem Box0.below {W W' : World} {xb fb sb : Nat} {K : Int} (h : Box0 W xb fb sb K) (hb : Below W.heap.size W W') : Box0 W' xb fb sb K := ⟨h.st.below hb h.st.lt, h.fo.below hb⟩
theorem bforest_any (xb fb sb : Nat) (K : Int) (W : World) (h : Box0 W xb fb sb K) : Calls Tryz.prog 47 #[.pointer (some ⟨xb, 0, none⟩)] W fun e w' => e = .returned (.pointer (some ⟨fb, 0, none⟩)) ∧ W = w' := by
  have c0 : W.cell? ⟨xb, 0, none⟩ = some (.pointer (some ⟨fb, 0, none⟩)) := h.st.cell 0
  clear h
  go_enter Tryz.func47, Tryz.ntmps47
  go_wp2
  go_ret
  exact ⟨rfl, rfl⟩
theorem fstore_any (fb sb : Nat) (W : World) (h : For0 W fb sb) : Calls Tryz.prog 44 #[.pointer (some ⟨fb, 0, none⟩)] W fun e w' => e = .returned (.pointer (some ⟨sb, 0, none⟩)) ∧ W = w' := by
  have c0 : W.cell? ⟨fb, 0, none⟩ = some (.pointer (some ⟨sb, 0, none⟩)) := (Whole.cell h 0).trans rfl
  clear h
  go_enter Tryz.func44, Tryz.ntmps44
  go_wp2
  go_ret
  exact ⟨rfl, rfl⟩
set_option maxHeartbeats 1000000 in
theorem recover_none (xb fb sb : Nat) (K : Int) (W : World) (h : Box0 W xb fb sb K) : Calls Tryz.prog 27 #[.pointer (some ⟨xb, 0, none⟩)] W fun e w' => e = .returned (.int .i64 0) ∧ Below W.heap.size W w' := by
  have HX := hide h
  have hb1 : Below W.heap.size W (W.alloc (.cells [.pointer (some ⟨xb, 0, none⟩)].toArray 69)) := (Below.refl _ _).alloc (Nat.le_refl _) _
  have HW1 := hide (Whole.new W [.pointer (some ⟨xb, 0, none⟩)] 69)
  have HB1 := hide hb1
  have HF := hide (bforest_any xb fb sb K _ (h.below hb1))
  clear h hb1
  go_enter Tryz.func27, Tryz.ntmps27
  go_upto_region 1 with fail
  change Code.wp _ _ _ _ (W.alloc (.cells [.pointer (some ⟨xb, 0, none⟩)].toArray 69))
  generalize W.alloc (.cells [.pointer (some ⟨xb, 0, none⟩)].toArray 69) = w1 at *
  have c0 := HW1.out.cell 0
  simp only [List.getElem?_cons_zero] at c0
  go_wp2_with fail
  refine HF.out.mono ?_
  rintro e w' ⟨rfl, rfl⟩
  clear c0 HF
  go_upto_region 4 with fail
  have hb2 : Below w1.heap.size w1 (w1.alloc (.cells [.pointer (some ⟨fb, 0, none⟩)].toArray 107)) := (Below.refl _ _).alloc (Nat.le_refl _) _
  have HW2 := hide (Whole.new w1 [.pointer (some ⟨fb, 0, none⟩)] 107)
  have HX2 := hide ((HX.out.below HB1.out).below hb2)
  have HB2 := hide (HB1.out.trans (hb2.mono HB1.out.size))
  clear hb2
  change Code.wp _ _ _ _ (w1.alloc (.cells [.pointer (some ⟨fb, 0, none⟩)].toArray 107))
  generalize w1.alloc (.cells [.pointer (some ⟨fb, 0, none⟩)].toArray 107) = w2 at *
  have c0 := HW2.out.cell 0
  simp only [List.getElem?_cons_zero] at c0
  have HG := hide (fget_none fb sb 4 ⟨#[1]⟩ w2 HX2.out.fo (by decide) rfl)
  go_wp2_with fail
  refine HG.out.mono ?_
  rintro e w3 ⟨rfl, hb⟩
  have HB3 := hide (HB2.out.trans (hb.mono HB2.out.size))
  clear hb c0
  go_wp2_with fail
  go_ret
  exact ⟨rfl, HB3.out⟩
set_option maxHeartbeats 1000000 in
theorem roots_none (xb fb sb : Nat) (K : Int) (fn : Fn) (c1 c2 : Array Value) (W : World) (h : Box0 W xb fb sb K) : Calls Tryz.prog 38 #[.pointer (some ⟨xb, 0, none⟩), .func fn c1 c2] W fun e w' => e = .returned (.int .i64 0) ∧ Below W.heap.size W w' := by
  have HX := hide h
  have hb1 : Below W.heap.size W (W.alloc (.cells [.func fn c1 c2, .int .i64 0].toArray 139)) := (Below.refl _ _).alloc (Nat.le_refl _) _
  have HW1 := hide (Whole.new W [.func fn c1 c2, .int .i64 0] 139)
  have HB1 := hide hb1
  have HX1 := hide (h.below hb1)
  clear h hb1
  have hq := fun w => run_eql_func_nil (P := Tryz.prog) w 104 _ _ _ fn c1 c2 Tryz.underlying104
  go_enter Tryz.func38, Tryz.ntmps38
  go_upto_region 4 with fail
  change Code.wp _ _ _ _ (W.alloc (.cells [.func fn c1 c2, .int .i64 0].toArray 139))
  generalize W.alloc (.cells [.func fn c1 c2, .int .i64 0].toArray 139) = w1 at *
  have HF := hide (bforest_any xb fb sb K w1 HX1.out)
  go_wp2_with fail
  refine HF.out.mono ?_
  rintro e w' ⟨rfl, rfl⟩
  have HE := fun f a b => hide (feach_none fb sb 3 f a b w1 HX1.out.fo (by decide))
  go_wp2_with fail
  refine (HE _ _ _).out.mono ?_
  rintro e w2 ⟨rfl, hb⟩
  have HB2 := hide (HB1.out.trans (hb.mono HB1.out.size))
  have c1 : w2.cell? ⟨W.heap.size, 1, none⟩ = some (.int .i64 0) := (hb.cell (p := ⟨W.heap.size, 1, none⟩) HW1.out.lt).trans (HW1.out.cell 1)
  clear hb
  go_wp2_with fail
  go_ret
  exact ⟨rfl, HB2.out⟩
set_option maxHeartbeats 1000000 in
theorem list_none (xb fb sb : Nat) (K : Int) (W : World) (h : Box0 W xb fb sb K) : Calls Tryz.prog 23 #[.pointer (some ⟨xb, 0, none⟩)] W fun e w' => e = .returned (.tuple #[.slice none 0 0, .int .i64 0]) ∧ Below W.heap.size W w' := by
  have hb1 : Below W.heap.size W (W.alloc (.cells [.slice none 0 0].toArray 39)) := (Below.refl _ _).alloc (Nat.le_refl _) _
  have HW1 := hide (Whole.new W [.slice none 0 0] 39)
  have HB1 := hide hb1
  have HX1 := hide (h.below hb1)
  clear h hb1
  go_enter Tryz.func23, Tryz.ntmps23
  go_upto_region 2 with fail
  change Code.wp _ _ _ _ (W.alloc (.cells [.slice none 0 0].toArray 39))
  generalize W.alloc (.cells [.slice none 0 0].toArray 39) = w1 at *
  have HE := fun f a b => hide (roots_none xb fb sb K f a b w1 HX1.out)
  go_wp2_with fail
  refine (HE _ _ _).out.mono ?_
  rintro e w2 ⟨rfl, hb⟩
  have HB2 := hide (HB1.out.trans (hb.mono HB1.out.size))
  have c0 : w2.cell? ⟨W.heap.size, 0, none⟩ = some (.slice none 0 0) := (hb.cell (p := ⟨W.heap.size, 0, none⟩) HW1.out.lt).trans (HW1.out.cell 0)
  clear hb
  go_wp2_with fail
  exact bodyPost_ret (v := .tuple #[.slice none 0 0, .int .i64 0]) (by simp [results, Tryz.results23, go_sem]) rfl ⟨rfl, HB2.out⟩
end Go.Proofs.YtnnfiicmplkakaaGreatDoor
namespace Go.Proofs.YtnnfiicmplkakaaGreatDoor
open Go.RowKit Go.Shelf

theorem fin_wf (c : Nat → List Int) (L P K : Nat) (hL : 96 ≤ L) (hL2 : L ≤ 512) (hc : ∀ i, c i = zeros 512) (j : Nat) : (finC c L P (numS K) j).length = 512 ∧ Byt (finC c L P (numS K) j) := by
  rw [fin_eq c L P _ hL]
  have hb := hd_is (hdB_good L P K hL2)
  have s0 := sh_is (finS_good P 0 (by decide)).1
  have s1 := sh_is (finS_good P 1 (by decide)).1
  have s2 := sh_is (finS_good P 2 (by decide)).1
  unfold upd
  split
  · exact s2.1
  · split
    · exact s1.1
    · split
      · exact s0.1
      · split
        · exact hb.1
        · exact fmt_wf hc (by rw [fin_nsz]; decide) j
theorem finA_wf (c : Nat → List Int) (L P K : Nat) (hL : 96 ≤ L) (hL2 : L ≤ 512) (hc : ∀ i, c i = zeros 512) (j : Nat) : (finA c L P (numS K) j).length = 512 ∧ Byt (finA c L P (numS K) j) := by
  rw [finA_eq]
  unfold upd
  split
  · exact ⟨zeros_len, zeros_byt 512⟩
  · split
    · exact ⟨by rw [nI_len, bytesTo_len], nI_byt (bytesTo_lt _ _)⟩
    · exact fin_wf c L P K hL hL2 hc j
def hdC (L P K : Nat) : Hd := trimHd (hdB L P (numS K)) 4
/-- the page store behind the opening of a fresh disk -/
def mntD (c : Nat → List Int) (L P K : Nat) : PgD := openX (finA c L P (numS K)) (hdB L P (numS K)) 0 4
theorem mntD_c (c : Nat → List Int) (L P K : Nat) : (mntD c L P K).c = upd (finA c L P (numS K)) 1 (hdC L P K).bytes := rfl
theorem mntD_wf (c : Nat → List Int) (L P K : Nat) (hL : 96 ≤ L) (hL2 : L ≤ 512) (hc : ∀ i, c i = zeros 512) (j : Nat) : ((mntD c L P K).c j).length = 512 ∧ Byt ((mntD c L P K).c j) := by
  rw [mntD_c]
  unfold upd
  split
  · exact (hd_is (h := hdC L P K) ⟨by show (0 : Int) ≤ 1 + 1 + 1 ∧ (1 : Int) + 1 + 1 < 18446744073709551616; decide, by show (0 : Int) ≤ 4 ∧ (4 : Int) < 18446744073709551616; decide, by show L < 65536; omega, by show (noteS P (numS K)).size ≤ 64; rw [fin_nsz]; decide⟩).1
  · exact finA_wf c L P K hL hL2 hc j
theorem fin_bit (j : Nat) : bitAt (setB ws0 1) j = (decide (1 = j) || decide (0 = j)) := by
  rw [bitAt_setB 1 j (by decide), ws0_bit, Bool.or_comm]
theorem popen_fin (bd n : Nat) (F : Nat → Prop) (c : Nat → List Int) (m L P K : Nat) (W : World) (hd : Ds W bd n F (finC c L P (numS K)) m) (hm : m ≤ 1000) (hc : ∀ i, c i = zeros 512) (ht : Tab W)
    (hL : 96 ≤ L ∧ L ≤ 512) (hP : 64 ≤ P ∧ P ≤ 1024) (hn : 2 + L + P ≤ n) (hF : ¬ F 0) :
    Calls Tryz.prog 65 #[.pointer (some ⟨bd, 0, none⟩)] W (POpenRes bd n P (numS K) F ((mntD c L P K).read 0) W) := by
  have hf : fTo (finY P) L L = finF P := by
    have := fin_fTo P L hL.1 (L - 4)
    rwa [show 4 + (L - 4) = L from by omega] at this
  refine (popen2_any bd n F _ m P (numS K) (setB ws0 1) (finX L P (numS K)) (hdB L P (numS K)) 0 W hd (by decide) (by show (1 : Int) + 1 < 4294967296; decide) (fin_hd c L P K hL.1 hL.2) (fin_best L P _) (by show 1 ≤ L; omega) (by show L < 60000; omega) hP.1 hP.2 hn (finY P) (fin_sh c L P K hL.1 hc) ht (hdB_good L P K hL.2)
    (finS P) 3 (by decide) (by show (1 : Int) + ((3 : Nat) : Int) < _; decide) ?_ ?_ ?_ [(ch2 P, [0, 1])] (by rw [roll_fin]; rfl) ?_ (by show m + 2 ≤ 80000; omega) rfl (by rw [numS, strOfNums_size, Pl.be_len]; decide) (fin_wf c L P K hL.1 hL.2 hc) ((ws0_ok (by omega) hP.2).setB 1) ?_ (by rw [fin_bit]; rfl) ?_ hF).mono ?_
  · intro i hi
    show fTo (finY P) L L (1 + (i : Int)) = _
    rw [hf]
    have h : i = 0 ∨ i = 1 ∨ i = 2 := by omega
    rcases h with rfl | rfl | rfl <;> rfl
  · show fTo (finY P) L L ((1 : Int) + ((3 : Nat) : Int)) = _
    rw [hf]
    rfl
  · intro q s
    show fTo (finY P) L L q = _ → _
    rw [hf]
    unfold finF
    intro h
    split at h
    · omega
    · split at h
      · omega
      · split at h
        · omega
        · cases h
  · intro i hi hj
    have h0 : i = 0 := by have h : i < 1 := hj; omega
    subst h0
    have e : (roll (finS P) 3).1[0]'hi = finT P := by simp only [roll_fin]; rfl
    rw [e]
    exact fin_tx P hP.1
  · intro j hj
    rw [fin_bit] at hj
    rcases Bool.or_eq_true _ _ ▸ hj with h | h
    · have := of_decide_eq_true h; omega
    · have := of_decide_eq_true h; omega
  · show finA c L P (numS K) (2 + L) = _
    rw [finA_eq]
    unfold upd
    rw [if_neg (by omega), if_pos (Nat.add_zero _).symm]
  · rintro e W' ⟨nx, hnx, hr⟩
    have hnx' : NextIs (finF P) 1 nx := by
      have h : NextIs (fTo (finY P) L L) 1 nx := hnx
      rwa [hf] at h
    obtain rfl := next_fin hnx'
    exact hr
theorem roots0 : rootsB (fun _ => 0) = zeros 512 := by
  have h : rootsT (fun _ => 0) 8 = List.replicate 16 0 := by decide
  unfold rootsB zeros
  rw [h, List.replicate_append_replicate]
theorem mnt_page (c : Nat → List Int) (L P K : Nat) : pageAt ((mntD c L P K).read 0) 1 = rootsB (fun _ => 0) := by
  rw [roots0]
  show upd (upd (upd _ _ _) (2 + L + 1) _) _ _ (2 + L + 1) = _
  unfold upd
  rw [if_neg (by show ¬ 2 + L + 1 = 1; omega), if_pos rfl]
  rfl
/-- behind the mounting of a fresh disk -/
def MntRes (bd n P K : Nat) (F : Nat → Prop) (d : PgD) (T : Nat → PgS → World → Nat → Prop) (W : World) (e : Ending) (W' : World) : Prop :=
  ∃ (s : PgS) (xb fb : Nat), s.bd = bd ∧ s.n = n ∧ s.P = P ∧ s.note = numS K ∧ e = .returned (.tuple #[.pointer (some ⟨xb, 0, none⟩), .int .i64 0]) ∧ T fb s W' xb ∧
    ∃ F', PSv W' s F' d ∧ Kp F W W' ∧ ∀ k, F' k → F k ∨ W.heap.size ≤ k
set_option maxHeartbeats 4000000 in
set_option maxRecDepth 20000 in
theorem fopen_fin (bd n : Nat) (F : Nat → Prop) (c : Nat → List Int) (m L P K : Nat) (W : World) (hd : Ds W bd n F (finC c L P (numS K)) m) (hm : m ≤ 1000) (hc : ∀ i, c i = zeros 512) (ht : Tab W)
    (hL : 96 ≤ L ∧ L ≤ 512) (hP : 64 ≤ P ∧ P ≤ 1024) (hn : 2 + L + P ≤ n) (hF : ¬ F 0) :
    Calls Tryz.prog 43 #[.pointer (some ⟨bd, 0, none⟩)] W (MntRes bd n P K F (((mntD c L P K).read 0).read 1) (fun _ s W' xb => For0 W' xb s.bs) W) := by
  have HOp := hide (popen_fin bd n F c m L P K W hd hm hc ht hL hP hn hF)
  have HPg := hide (mnt_page c L P K)
  have HWf := hide (mntD_wf c L P K hL.1 hL.2 hc)
  have hF0 : ∀ k, F k → k < W.heap.size := fun k hk => hd.lt hk
  have HSec := hide (show (((mntD c L P K).read 0)).h.sec = L from rfl)
  have HC0 := hide (show ((mntD c L P K).read 0).c = (mntD c L P K).c from rfl)
  have HQ0 := hide (show ((mntD c L P K).read 0).q ≤ 100000 from by show 0 + 1 ≤ 100000; decide)
  have HM0 := hide (show ((mntD c L P K).read 0).m ≤ 100000 from by show 0 ≤ 100000; decide)
  clear hd ht hc
  generalize (mntD c L P K).read 0 = d0 at *
  go_enter Tryz.func43, Tryz.ntmps43
  go_wp2_with fail
  refine HOp.out.mono ?_
  rintro e w1 ⟨s, e1, e2, e3, e4, hb, rfl, F1, hp, hk, hs⟩
  have HP1 := hide hp
  have HK1 := hide hk
  have HS1 := hide hs
  have hw1 := hk.size
  have hlts := hp.lts
  have hnlt := hp.nlt
  have HW2 := hide (Whole.new w1 (forC s.bs (fun _ => 0) 0) 156)
  have hb2 : Below w1.heap.size w1 (w1.alloc (.cells (forC s.bs (fun _ => 0) 0).toArray 156)) := (Below.refl _ _).alloc (Nat.le_refl _) _
  have HP2 := hide (hp.below hb2)
  have HB2 := hide hb2
  have HFar := hide (show Far s F1 w1.heap.size from ⟨by omega, by omega, by omega, by omega, by omega, fun hf => by have := hnlt _ hf; omega⟩)
  clear hp hk hs hb2
  go_upto_region 5 with fail
  change Code.wp _ _ _ _ (w1.alloc (.cells (forC s.bs (fun _ => 0) 0).toArray 156))
  generalize w1.alloc (.cells (forC s.bs (fun _ => 0) 0).toArray 156) = w2 at *
  have hfl := HW2.out.lt
  generalize hfb : w1.heap.size = fb at *
  have HFb := hide hfb
  clear hfb
  have HLd := hide (fload_any s F1 d0 fb (fun _ => 0) w2 HP2.out HW2.out HFar.out (by omega) (by omega) HQ0.out HM0.out (by rw [HSec.out]; omega) (by rw [HSec.out, e3, e2]; omega) (by rw [HC0.out]; exact HWf.out) HPg.out (fun j _ => ⟨by decide, by show (0 : Int) < (s.P : Int); omega, by decide⟩))
  go_wp2_with fail
  refine HLd.out.mono ?_
  rintro e w3 ⟨rfl, hp3, hf3, hk3⟩
  have HP3 := hide hp3
  have HF3 := hide hf3
  have HK3 := hide hk3
  clear hp3 hf3 hk3 HLd
  go_wp2_with fail
  refine bodyPost_ret (v := .tuple #[.pointer (some ⟨fb, 0, none⟩), .int .i64 0]) (by simp [results, Tryz.results43, go_sem]) rfl ⟨s, fb, fb, e1, e2, e3, e4, rfl, HF3.out, F1, HP3.out, ?_, HS1.out⟩
  have hfbW := HFb.out
  refine (HK1.out.trans (Kp.of_below (F := NoF) (hfbW ▸ HB2.out)) (fun i hi => hi.elim)).trans HK3.out (fun i hi => .inr ?_)
  rcases hi with rfl | hi
  · omega
  · unfold TwoF at hi
    omega
theorem pnote_any {W : World} {s : PgS} {F : Nat → Prop} {d : PgD} (h : PSv W s F d) : Calls Tryz.prog 45 #[.pointer (some ⟨s.bs, 0, none⟩)] W fun e w' => e = .returned (.string s.note) ∧ W = w' := by
  have c3 : W.cell? ⟨s.bs, 3, none⟩ = some (.string s.note) := by
    obtain ⟨_, _, _, hp, _⟩ := h
    exact hp.st.cell 3
  clear h
  obtain ⟨sb, _, _, _, P, nt, _, _, _⟩ := s
  simp only at c3 ⊢
  go_enter Tryz.func45, Tryz.ntmps45
  go_wp2
  go_ret
  exact ⟨rfl, rfl⟩
set_option maxHeartbeats 4000000 in
set_option maxRecDepth 20000 in
theorem bmount_fin (bd n : Nat) (F : Nat → Prop) (c : Nat → List Int) (m L P K : Nat) (W : World) (hd : Ds W bd n F (finC c L P (numS K)) m) (hm : m ≤ 1000) (hc : ∀ i, c i = zeros 512) (ht : Tab W)
    (hL : 96 ≤ L ∧ L ≤ 512) (hP : 64 ≤ P ∧ P ≤ 1024) (hK : 3 ≤ K ∧ K ≤ 200) (hn : 2 + L + P + 5 * K ≤ n) (hnn : n ≤ 100000) (hF : ¬ F 0) :
    Calls Tryz.prog 26 #[.pointer (some ⟨bd, 0, none⟩)] W (MntRes bd n P K F (((mntD c L P K).read 0).read 1) (fun fb s W' xb => Box0 W' xb fb s.bs (K : Int)) W) := by
  have HOp := hide (fopen_fin bd n F c m L P K W hd hm hc ht hL hP (by omega) hF)
  have hF0 : ∀ k, F k → k < W.heap.size := fun k hk => hd.lt hk
  have HSec := hide (show ((((mntD c L P K).read 0)).read 1).h.sec = L from rfl)
  clear hd ht hc
  generalize ((mntD c L P K).read 0).read 1 = d0 at *
  go_enter Tryz.func26, Tryz.ntmps26
  go_wp2_with fail
  refine HOp.out.mono ?_
  rintro e w1 ⟨s, fb, _, e1, e2, e3, e4, rfl, hf, F1, hp, hk, hs⟩
  have HP1 := hide hp
  have HK1 := hide hk
  have HS1 := hide hs
  have HF1 := hide hf
  have hw1 := hk.size
  have hfl := Whole.lt hf
  have HNt := hide e4
  clear hp hk hs hf HOp
  go_wp2_with fail
  refine (fstore_any fb s.bs w1 HF1.out).mono ?_
  rintro e w' ⟨rfl, rfl⟩
  go_wp2_with fail
  refine (pnote_any HP1.out).mono ?_
  rintro e w' ⟨rfl, rfl⟩
  rw [HNt.out]
  obtain ⟨A5, c5, w5, hrun, hm5, hb5⟩ := conv_bytes w1 (numS K)
  have hbs : bs (numS K) = Pl.be 2 (K : Int) := by rw [numS, bs_nums (Pl.be_byt _ _)]
  have hsz : (numS K).size = 2 := by rw [← bs_len, hbs, Pl.be_len]
  rw [hsz] at hrun
  rw [hbs] at hm5
  have HM5 := hide hm5
  have HB5 := hide hb5
  have hs5 := hb5.size
  clear hm5 hb5 hbs
  have HOf := hide (of_any A5 (Pl.be 2 (K : Int)) c5 w5 HM5.out (by rw [Pl.be_len]; decide))
  rw [Pl.be_len] at HOf
  have HP5 := hide (HP1.out.below HB5.out)
  have HF5 := hide (HF1.out.below HB5.out)
  generalize hnt : numS K = nt at hrun HNt ⊢
  have HNtE := hide hnt
  clear hnt
  have hlts := HP5.out.lts
  have hnlt := HP5.out.nlt
  go_wp2_with fail
  refine HOf.out.mono ?_
  rintro e w6 ⟨bo, g, A6, c6, rfl, hop, hb6, hbo, hg⟩
  have HP6 := hide (HP5.out.below hb6)
  have HF6 := hide (HF5.out.below hb6)
  have hTk := take_any bo g A6 c6 2 (Pl.be 2 (K : Int)) w6 hop (.inr (.inl rfl)) (by rw [Pl.be_len]; decide) (Pl.be_byt _ _)
  rw [List.take_of_length_le (by rw [Pl.be_len]; decide), List.drop_of_length_le (by rw [Pl.be_len]; decide), un_be2 K (by omega)] at hTk
  have HTk := hide hTk
  have HK6 := hide ((HK1.out.trans (Kp.of_below (F := NoF) HB5.out) (fun _ h => h.elim)).trans (Kp.of_below (F := NoF) hb6) (fun _ h => h.elim))
  clear hTk hop hb6 HOf hrun
  go_wp2_with fail
  refine HTk.out.mono ?_
  rintro e w7 ⟨rfl, A7, c7, hop7, hk7⟩
  have HP7 := hide (HP6.out.kpx hk7 (fun i hi => by have hi : i = bo := hi; exact ⟨by omega, by omega, by omega, by omega, by omega, fun hf => by have := hnlt _ hf; omega⟩))
  have HF7 := hide (show For0 w7 fb s.bs from Whole.kp HF6.out hk7 (fun e => by have e : fb = bo := e; omega))
  have HK7 := hide (HK6.out.trans hk7 (fun i hi => .inr (by have hi : i = bo := hi; omega)))
  have HOp7 := hide hop7
  clear hop7 hk7 HTk
  have hwK : IntKind.i64.wrap (K : Int) = (K : Int) := IntWalk.i64_in _ (by omega)
  go_upto_region 6 with fail
  have HX8 := hide (Whole.new w7 [.pointer (some ⟨fb, 0, none⟩), .int .i64 (K : Int)] 113)
  have hb8 : Below w7.heap.size w7 (w7.alloc (.cells [.pointer (some ⟨fb, 0, none⟩), .int .i64 (K : Int)].toArray 113)) := (Below.refl _ _).alloc (Nat.le_refl _) _
  have HP8 := hide (HP7.out.below hb8)
  have HF8 := hide (HF7.out.below hb8)
  have HK8 := hide (HK7.out.trans (Kp.of_below (F := NoF) hb8) (fun _ h => h.elim))
  have HOp8 := hide (HOp7.out.kp (F := NoF) (Kp.of_below hb8) (fun h => h) (fun h => h))
  clear hb8
  change Code.wp _ _ _ _ (w7.alloc (.cells [.pointer (some ⟨fb, 0, none⟩), .int .i64 (K : Int)].toArray 113))
  generalize w7.alloc (.cells [.pointer (some ⟨fb, 0, none⟩), .int .i64 (K : Int)].toArray 113) = w8 at *
  generalize w7.heap.size = xb at *
  have hwx := HX8.out.lt
  have c1 : w8.cell? ⟨xb, 1, none⟩ = some (.int .i64 (K : Int)) := HX8.out.cell 1
  have hmk : decide (3 ≤ (K : Int) ∧ (K : Int) ≤ 200) = true := decide_eq_true (by omega)
  have hw5 : IntKind.i64.wrap (5 * (K : Int)) = 5 * (K : Int) := IntWalk.i64_in _ (by omega)
  have hw6 : IntKind.i64.wrap (((2 + L + P : Nat) : Int) + 5 * (K : Int)) = ((2 + L + P : Nat) : Int) + 5 * (K : Int) := IntWalk.i64_in _ (by omega)
  have hd6 : decide ((n : Int) < ((2 + L + P : Nat) : Int) + 5 * (K : Int)) = false := decide_eq_false (by omega)
  have HE := fun w (hb : Below w8.heap.size w8 w) => hide (end_any bo g A7 c7 [] 0 w (HOp8.out.kp (F := NoF) (Kp.of_below hb) (fun h => h) (fun h => h)))
  have hee : endErr [] 0 = 0 := rfl
  rw [hee] at HE
  have HM := fun w => hide (many_any (K : Int) w)
  rw [hmk] at HM
  have HS := fun w (hb : Below w8.heap.size w8 w) => hide (fstore_any fb s.bs w (HF8.out.below hb))
  have HBe := fun w (hb : Below w8.heap.size w8 w) => hide (show Calls Tryz.prog 46 #[.pointer (some ⟨s.bs, 0, none⟩)] w fun e w' => e = .returned (.int .i64 ((2 + L + P : Nat) : Int)) ∧ ∃ k, w' = w.drewN k from by
    obtain ⟨_, _, _, hp, _⟩ := HP8.out.below hb
    have := behind_any hp (by omega) (by rw [HSec.out]; omega)
    rwa [HSec.out, e3] at this)
  have HLen := fun w (hb : Below w8.heap.size w8 w) => hide (show Calls Tryz.prog 21 #[.pointer (some ⟨bd, 0, none⟩)] w (fun e w' => e = .returned (.int .i64 n) ∧ w = w') from by
    obtain ⟨_, _, _, hp, _⟩ := HP8.out.below hb
    obtain ⟨A0, k0, hln⟩ := hp.ld.ds.len
    have := dlen_any s.bd s.n k0 A0 _ hln
    rwa [e1, e2] at this)
  have HB0 := hide (Below.refl w8.heap.size w8)
  clear hmk hee
  go_quiet (first
    | (go_at_call 22; refine Calls.quiet_of_same ((HE _ (below_drewN HB0.out _)).out.mono fun _ _ h => ⟨h.1, h.2.symm⟩))
    | (go_at_call 40; refine Calls.quiet_of_same ((HM _).out.mono fun _ _ h => ⟨h.1, h.2.symm⟩))
    | (go_at_call 44; refine Calls.quiet_of_same ((HS _ (below_drewN HB0.out _)).out.mono fun _ _ h => ⟨h.1, h.2.symm⟩))
    | (go_at_call 46; exact Calls.quiet_of (HBe _ (below_drewN HB0.out _)).out)
    | (go_at_call 21; refine Calls.quiet_of_same ((HLen _ (below_drewN HB0.out _)).out.mono fun _ _ h => ⟨h.1, h.2.symm⟩)))
  have HBq := hide (below_drewN (Below.refl w8.heap.size w8) nq)
  have HPq := hide (HP8.out.below HBq.out)
  have HFq := hide (HF8.out.below HBq.out)
  have HXq := hide (HX8.out.below HBq.out HX8.out.lt)
  have HKq := hide (HK8.out.trans (Kp.of_below (F := NoF) HBq.out) (fun _ h => h.elim))
  clear c1 HBq HP8 HF8 HX8 HK8 HE HM HS HBe HLen HB0
  generalize w8.drewN nq = wq at *
  go_wp2_with fail
  refine bodyPost_ret (v := .tuple #[.pointer (some ⟨xb, 0, none⟩), .int .i64 0]) (by simp [results, Tryz.results26, go_sem]) rfl ⟨s, xb, fb, e1, e2, e3, HNt.out.trans HNtE.out.symm, rfl, ⟨HXq.out, HFq.out⟩, F1, HPq.out, HKq.out, HS1.out⟩
end Go.Proofs.YtnnfiicmplkakaaGreatDoor
namespace Go.Proofs.YtnnfiicmplkakaaGreatDoor
open Go.RowKit Go.Shelf

set_option maxHeartbeats 1000000 in
theorem is_none (bd n : Nat) (F : Nat → Prop) (c : Nat → List Int) (m : Nat) (xs : Nat → Option Hd) (W : World) (hd : Ds W bd n F c m) (hm : m ≤ 100000) (hn : 2 ≤ n)
    (hx : ∀ i, i < 2 → HdIs (c i) (xs i)) (hb : bestTo xs 2 = none) (ht : Tab W) :
    Calls Tryz.prog 13 #[.pointer (some ⟨bd, 0, none⟩)] W (fun e W' => e = .returned (.tuple #[.bool false, .int .i64 0]) ∧ Below W.heap.size W W') := by
  have HL := hide (look_none bd n F c m xs W hd hm hn hx hb ht)
  clear hd hx hb ht
  unfold shpV shC at HL
  go_enter Tryz.func13, Tryz.ntmps13
  go_wp2_with fail
  refine HL.out.mono ?_
  rintro e w1 ⟨rfl, hb⟩
  have HB := hide (hb.alloc hb.size (.cells #[.int .i64 0, .int .i64 0, .int .i64 0, .int .i64 0, .int .i64 0] 33))
  clear hb
  go_wp2_with fail
  exact bodyPost_ret (v := .tuple #[.bool false, .int .i64 0]) (by simp [results, Tryz.results13, go_sem]) rfl ⟨rfl, HB.out⟩
theorem best185 : bestV 185 = .tuple #[.agg #[.int .i64 96, .int .i64 72, .int .i64 3], .bool true] := by
  have h : down 185 200 = 3 := by decide +kernel
  unfold bestV
  rw [h]
  rfl
theorem best184 : bestV 184 = .tuple #[.agg #[.int .i64 0, .int .i64 0, .int .i64 0], .bool false] := by
  have h : down 184 200 = 0 := by decide +kernel
  unfold bestV
  rw [h]
  rfl
theorem vformat_ok (bd n : Nat) (F : Nat → Prop) (c : Nat → List Int) (m L P K : Nat) (W : World) (h : Ds W bd n F c m) (hm : m ≤ 10) (hc : ∀ i, c i = zeros 512)
    (ht : Tab W) (htz : TabZ W) (hF : ∀ k, F k → 0 < k ∧ 1 < k) (hW : 0 < W.heap.size ∧ 1 < W.heap.size) (hL : 96 ≤ L ∧ L ≤ 512) (hP : 64 ≤ P ∧ P ≤ 1024) (hK : 3 ≤ K ∧ K ≤ 200) (hn : 2 + L + P + 5 * K ≤ n) :
    Calls Tryz.prog 14 #[.pointer (some ⟨bd, 0, none⟩), .agg #[.int .i64 (L : Int), .int .i64 (P : Int), .int .i64 (K : Int)]] W (DsRes bd n F (finC c L P (numS K)) 0 W) := by
  refine (vformat_any bd n F c m L P K W h hm hc ht htz hF hW).mono fun e w' hr => ?_
  rcases hr with ⟨hb, _⟩ | ⟨L', P', K', h1, h2, h3, h4, h5, h6, h7, hr⟩
  · exact absurd hb (by unfold BArg; omega)
  · obtain rfl : L = L' := by omega
    obtain rfl : P = P' := by omega
    obtain rfl : K = K' := by omega
    rcases hr with ⟨_, _, hr⟩ | ⟨hb, _⟩
    · exact hr
    · exact absurd ⟨hL.1, hP.1⟩ hb
/-- a disk that is new -/
theorem dnew_ds (n : Nat) (W : World) (h1 : 1 ≤ n) (h2 : n ≤ 4096) : Calls Tryz.prog 12 #[.int .i64 n] W fun e w' => ∃ bd F, e = .returned (.tuple #[.pointer (some ⟨bd, 0, none⟩), .int .i64 0]) ∧ Ds w' bd n F (fun _ => zeros 512) 0 ∧ Below W.heap.size W w' ∧ ∀ k, F k → W.heap.size ≤ k := by
  refine (dnew_any n W h1 h2).mono ?_
  rintro e w' ⟨bd, bon, rfl, hd, hb, hl1, hl2⟩
  refine ⟨bd, dkF bd bon (.slice none 0 0), rfl, ⟨bon, _, _, [], 0, hd, rfl, Nat.le_refl _, rfl⟩, hb, fun k hk => ?_⟩
  rcases hk with rfl | rfl | h
  · exact hl1
  · exact hl2
  · cases h
/-- what lies in memory while wakes goes on -/
structure WkW (W w : World) (b1 bd : Nat) (F : Nat → Prop) (c : Nat → List Int) : Prop where
  cfg : Whole w b1 24 [.int .i64 96, .int .i64 72, .int .i64 3]
  ds : Ds w bd 190 F c 0
  bel : Below W.heap.size W w
  tab : Tab w
  tabz : TabZ w
theorem tab_below {W w : World} (h : Tab W) (hb : Below W.heap.size W w) : Tab w := h.below hb
theorem tabz_below {W w : World} (h : TabZ W) (hb : Below W.heap.size W w) : TabZ w := h.kp (F := NoF) (Kp.of_below hb) (fun h => h)
theorem WkW.below {W w w' : World} {b1 bd : Nat} {F : Nat → Prop} {c : Nat → List Int} (h : WkW W w b1 bd F c) (hb : Below w.heap.size w w') : WkW W w' b1 bd F c :=
  ⟨h.cfg.below hb h.cfg.lt, h.ds.below hb, h.bel.trans (hb.mono h.bel.size), tab_below h.tab hb, tabz_below h.tabz hb⟩
theorem zeros_hd (i : Nat) (_ : i < 2) : HdIs ((fun _ => zeros 512 : Nat → List Int) i) ((fun _ => none : Nat → Option Hd) i) := hd_zeros
set_option maxHeartbeats 4000000 in
set_option maxRecDepth 20000 in
theorem wakes_any (W : World) (ht : Tab W) (htz : TabZ W) (hW : 0 < W.heap.size ∧ 1 < W.heap.size) : Calls Tryz.prog 6 #[] W fun e w' => e = .returned (.bool true) ∧ Below W.heap.size W w' := by
  have HT := hide ht
  have HTz := hide htz
  clear ht htz
  have HBest1 := fun w => hide (fbest_any 185 w)
  have HBest2 := fun w => hide (fbest_any 184 w)
  rw [best185] at HBest1
  rw [best184] at HBest2
  go_enter Tryz.func6, Tryz.ntmps6
  go_wp2_with fail
  refine (HBest1 _).out.mono ?_
  rintro e w1 ⟨rfl, hb⟩
  have hx2 := Whole.new w1 [.int .i64 96, .int .i64 72, .int .i64 3] 24
  have HB2 := hide (hb.alloc hb.size (.cells #[.int .i64 96, .int .i64 72, .int .i64 3] 24))
  have HX2 := hide hx2
  clear hb hx2
  go_wp2_with fail
  change Calls _ _ _ (w1.alloc (.cells [.int .i64 96, .int .i64 72, .int .i64 3].toArray 24)) _
  change Hid (Below W.heap.size W (w1.alloc (.cells [.int .i64 96, .int .i64 72, .int .i64 3].toArray 24))) at HB2
  generalize w1.alloc (.cells [.int .i64 96, .int .i64 72, .int .i64 3].toArray 24) = w2 at *
  generalize w1.heap.size = b1 at *
  refine (HBest2 _).out.mono ?_
  rintro e w3 ⟨rfl, hb⟩
  have hal : Below w2.heap.size w2 (w3.alloc (.cells #[.int .i64 0, .int .i64 0, .int .i64 0] 24)) := hb.alloc hb.size _
  have HX4 := hide (HX2.out.below hal HX2.out.lt)
  have HB4 := hide (HB2.out.trans (hal.mono HB2.out.size))
  clear hb hal HX2 HB2 HBest1 HBest2
  go_wp2_with fail
  generalize w3.alloc (.cells #[.int .i64 0, .int .i64 0, .int .i64 0] 24) = w4 at *
  refine (dnew_ds 190 w4 (by decide) (by decide)).mono ?_
  rintro e w5 ⟨bd, F, rfl, hd, hb, hF⟩
  have HF := hide hF
  have hsz4 := HB4.out.size
  have HK5 := hide (show WkW W w5 b1 bd F (fun _ => zeros 512) from ⟨HX4.out.below hb HX4.out.lt, hd, HB4.out.trans (hb.mono HB4.out.size), tab_below HT.out (HB4.out.trans (hb.mono HB4.out.size)), tabz_below HTz.out (HB4.out.trans (hb.mono HB4.out.size))⟩)
  have hb14 := HX4.out.lt
  clear hd hb hF HX4 HB4
  go_wp2_with fail
  have HLk := hide (look_none bd 190 F _ 0 _ w5 HK5.out.ds (by decide) (by decide) zeros_hd rfl HK5.out.tab)
  unfold shpV shC at HLk
  refine HLk.out.mono ?_
  rintro e w6 ⟨rfl, hb⟩
  have HK7 := hide (HK5.out.below (hb.alloc hb.size (.cells #[.int .i64 0, .int .i64 0, .int .i64 0, .int .i64 0, .int .i64 0] 33)))
  clear hb HLk
  go_wp2_with fail
  generalize w6.alloc (.cells #[.int .i64 0, .int .i64 0, .int .i64 0, .int .i64 0, .int .i64 0] 33) = w7 at *
  refine (is_none bd 190 F _ 0 _ w7 HK7.out.ds (by decide) (by decide) zeros_hd rfl HK7.out.tab).mono ?_
  rintro e w8 ⟨rfl, hb⟩
  have HK8 := hide (HK7.out.below hb)
  clear hb HK5 HK7
  have y0 := HK8.out.cfg.cell 0
  have y1 := HK8.out.cfg.cell 1
  have y2 := HK8.out.cfg.cell 2
  simp only [List.getElem?_cons_zero, List.getElem?_cons_succ] at y0 y1 y2
  go_wp2_with fail
  have HFm := hide (vformat_ok bd 190 F _ 0 96 72 3 w8 HK8.out.ds (by decide) (fun _ => rfl) HK8.out.tab HK8.out.tabz (fun k hk => by have := HF.out k hk; omega) (hi_mono hW HK8.out.bel.size) (by decide) (by decide) (by decide) (by decide))
  refine HFm.out.mono ?_
  rintro e w9 ⟨rfl, F', g1, g2, g3⟩
  have hnb : ¬ F b1 := fun hf => by have := HF.out _ hf; omega
  have HK9 := hide (show WkW W w9 b1 bd F' _ from ⟨HK8.out.cfg.kp g2 hnb, g1, HK8.out.bel.trans (g2.below HK8.out.bel.size (fun i hi => Nat.le_trans hsz4 (HF.out i hi))), HK8.out.tab.kp g2 (fun hf => by have := HF.out _ hf; omega), HK8.out.tabz.kp g2 (fun hf => by have := HF.out _ hf; omega)⟩)
  clear g1 g2 g3 y0 y1 y2 HFm
  go_wp2_with fail
  have HLk := hide (look_fin bd 190 F' _ 0 96 72 3 w9 HK9.out.ds (by decide) (by decide) (fun _ => rfl) HK9.out.tab (by decide) (by decide) (by decide) (by decide))
  refine HLk.out.mono ?_
  rintro e wa ⟨⟨q, hq, rfl⟩, hb⟩
  have hsh : shpV ((96 : Nat) : Int) ((72 : Nat) : Int) ((3 : Nat) : Int) (((190 : Nat) : Int) - 2 - ((96 : Nat) : Int) - ((72 : Nat) : Int) - 5 * ((3 : Nat) : Int)) (q : Int) = .agg #[.int .i64 96, .int .i64 72, .int .i64 3, .int .i64 5, .int .i64 q] := rfl
  rw [hsh]
  clear hsh HLk
  obtain ⟨qq, hqq⟩ : ∃ qq : Int, qq = (q : Int) := ⟨_, rfl⟩
  rw [← hqq]
  have d1 : decide (0 ≤ qq) = true := decide_eq_true (by omega)
  have d2 : decide (qq ≤ 96) = true := decide_eq_true (by omega)
  clear hqq hq
  have HXb := hide (Whole.new wa [.int .i64 96, .int .i64 72, .int .i64 3, .int .i64 5, .int .i64 qq] 33)
  have HKb := hide ((HK9.out.below hb).below ((Below.refl wa.heap.size wa).alloc (Nat.le_refl _) (.cells [.int .i64 96, .int .i64 72, .int .i64 3, .int .i64 5, .int .i64 qq].toArray 33)))
  have hb1a := (HK9.out.below hb).cfg.lt
  have hFa : ∀ k, F' k → k < wa.heap.size := fun k hk => (HK9.out.below hb).ds.lt hk
  have hWa := (HK9.out.below hb).bel.size
  clear hb HK9 HK8
  go_upto_region 10 with fail
  change Code.wp _ _ _ _ (wa.alloc (.cells [.int .i64 96, .int .i64 72, .int .i64 3, .int .i64 5, .int .i64 qq].toArray 33))
  generalize wa.alloc (.cells [.int .i64 96, .int .i64 72, .int .i64 3, .int .i64 5, .int .i64 qq].toArray 33) = wb at *
  generalize wa.heap.size = bx at *
  have y4 := HXb.out.cell 4
  have x4 := HXb.out.frozen 4
  simp only [List.getElem?_cons_zero, List.getElem?_cons_succ] at y4
  go_upto_region 12 with fail
  have hxc := HXb.out.set_ 4 (.int .i64 0)
  simp only [List.set_cons_succ, List.set_cons_zero] at hxc
  have hkc : Kp (OnlyF bx) wb (wb.setCell ⟨bx, 4, none⟩ (.int .i64 0)) := Kp.set_only _ _ _ _
  have HCc := hide (HKb.out.cfg.kp hkc (fun e => by have e : b1 = bx := e; omega))
  have HBc := hide (HKb.out.bel.trans (hkc.below HKb.out.bel.size (fun i hi => by have hi : i = bx := hi; omega)))
  have HXc := hide hxc
  clear hxc hkc y4 x4 HXb HKb
  generalize wb.setCell ⟨bx, 4, none⟩ (.int .i64 0) = wc at *
  have z0 := HXc.out.cell 0
  have z1 := HXc.out.cell 1
  have z2 := HXc.out.cell 2
  have z3 := HXc.out.cell 3
  have z4 := HXc.out.cell 4
  have y0 := HCc.out.cell 0
  have y1 := HCc.out.cell 1
  have y2 := HCc.out.cell 2
  simp only [List.getElem?_cons_zero, List.getElem?_cons_succ] at z0 z1 z2 z3 z4 y0 y1 y2
  go_wp2_with fail
  go_ret
  exact ⟨rfl, HBc.out⟩
end Go.Proofs.YtnnfiicmplkakaaGreatDoor
namespace Go.Proofs.YtnnfiicmplkakaaGreatDoor
open Go.RowKit Go.Shelf

def mntC (c : Nat → List Int) (L P K : Nat) : Nat → List Int := (mntD c L P K).c
def mntX (L P K i : Nat) : Option Hd := if i = 0 then some (hdB L P (numS K)) else some (hdC L P K)
theorem hdC_good (L P K : Nat) (hL : L ≤ 512) : (hdC L P K).good := ⟨by show (0 : Int) ≤ 1 + 1 + 1 ∧ (1 : Int) + 1 + 1 < 18446744073709551616; decide, by show (0 : Int) ≤ 4 ∧ (4 : Int) < 18446744073709551616; decide, by show L < 65536; omega, by show (noteS P (numS K)).size ≤ 64; rw [fin_nsz]; decide⟩
theorem mnt_hd (c : Nat → List Int) (L P K : Nat) (hL : 96 ≤ L) (hL2 : L ≤ 512) (i : Nat) (hi : i < 2) : HdIs (mntC c L P K i) (mntX L P K i) := by
  have h : i = 0 ∨ i = 1 := by omega
  rcases h with rfl | rfl
  · have e : mntC c L P K 0 = finC c L P (numS K) 0 := by
      show upd (finA c L P (numS K)) 1 (hdC L P K).bytes 0 = _
      unfold upd
      rw [if_neg (by decide), finA_low _ _ _ _ _ (by omega)]
    rw [e]
    exact fin_hd c L P K hL hL2 0 (by decide)
  · have e : mntC c L P K 1 = (hdC L P K).bytes := by
      rw [show mntC c L P K = _ from mntD_c c L P K]
      unfold upd
      rw [if_pos rfl]
    rw [e]
    exact hd_is (hdC_good L P K hL2)
theorem mnt_best (L P K : Nat) : bestTo (mntX L P K) 2 = some (hdC L P K, 1) := by
  show (if (hdB L P (numS K)).gen < (hdC L P K).gen then some (hdC L P K, 1) else some (hdB L P (numS K), 0)) = _
  rw [if_pos (by show (1 : Int) + 1 < 1 + 1 + 1; decide)]
theorem mnt_sh (c : Nat → List Int) (L P K : Nat) (hL : 96 ≤ L) (hc : ∀ i, c i = zeros 512) (i : Nat) (hi : i < L) : ShIs (mntC c L P K (2 + i)) (finY P i) := by
  have e : mntC c L P K (2 + i) = finC c L P (numS K) (2 + i) := by
    rw [show mntC c L P K = _ from mntD_c c L P K]
    unfold upd
    rw [if_neg (by omega), finA_low _ _ _ _ _ (by omega)]
  rw [e]
  exact fin_sh c L P K hL hc i hi
theorem look_mnt (bd n : Nat) (F : Nat → Prop) (c : Nat → List Int) (m L P K : Nat) (W : World) (hd : Ds W bd n F (mntC c L P K) m) (hm : m ≤ 100000) (hnn : n ≤ 100000) (hc : ∀ i, c i = zeros 512) (ht : Tab W)
    (hL : 96 ≤ L ∧ L ≤ 512) (hP : 64 ≤ P ∧ P ≤ 1024) (hK : 3 ≤ K ∧ K ≤ 200) (hn : 2 + L + P + 5 * K ≤ n) :
    Calls Tryz.prog 8 #[.pointer (some ⟨bd, 0, none⟩)] W (fun e W' => e = .returned (.tuple #[shpV L P K ((n : Int) - 2 - L - P - 5 * K) 0, .int .i64 0]) ∧ Below W.heap.size W W') := by
  have hf : fTo (finY P) L L = finF P := by
    have := fin_fTo P L hL.1 (L - 4)
    rwa [show 4 + (L - 4) = L from by omega] at this
  refine (look_ok bd n F _ m (mntX L P K) (hdC L P K) 1 W hd hm hnn (mnt_hd c L P K hL.1 hL.2) (mnt_best L P K) (by show 1 ≤ L; omega) (by show L < 60000; omega) (finY P) (mnt_sh c L P K hL.1 hc) ht (hdC_good L P K hL.2)
    (finS P) 0 (by decide) (by show (4 : Int) + ((0 : Nat) : Int) < _; decide) (fun i hi => absurd hi (Nat.not_lt_zero _)) ?_ ?_ P K (fin_note P K) hP hK hn).mono ?_
  · show fTo (finY P) L L ((4 : Int) + ((0 : Nat) : Int)) = _
    rw [hf]
    rfl
  · intro q s
    show fTo (finY P) L L q = _ → _
    rw [hf]
    unfold finF
    intro h
    split at h
    · omega
    · split at h
      · omega
      · split at h
        · omega
        · cases h
  · rintro e W' ⟨rfl, hb⟩
    exact ⟨rfl, hb⟩
/-- behind vault.Mount of a fresh disk -/
def VMntRes (bd n K : Nat) (F : Nat → Prop) (c : Nat → List Int) (W : World) (e : Ending) (W' : World) : Prop :=
  ∃ (vb xb fb sb : Nat) (F' : Nat → Prop), e = .returned (.tuple #[.pointer (some ⟨vb, 0, none⟩), .int .i64 0]) ∧ Whole W' vb 82 [.pointer (some ⟨xb, 0, none⟩)] ∧ Box0 W' xb fb sb (K : Int) ∧ Ds W' bd n F' c 0 ∧ Kp F W W' ∧ ∀ k, F' k → F k ∨ W.heap.size ≤ k
set_option maxHeartbeats 4000000 in
set_option maxRecDepth 20000 in
theorem vmount_fin (bd n : Nat) (F : Nat → Prop) (c : Nat → List Int) (m L P K : Nat) (W : World) (hd : Ds W bd n F (finC c L P (numS K)) m) (hm : m ≤ 1000) (hc : ∀ i, c i = zeros 512) (ht : Tab W)
    (hL : 96 ≤ L ∧ L ≤ 512) (hP : 64 ≤ P ∧ P ≤ 1024) (hK : 3 ≤ K ∧ K ≤ 200) (hn : 2 + L + P + 5 * K ≤ n) (hnn : n ≤ 100000) (hF : ¬ F 0) :
    Calls Tryz.prog 15 #[.pointer (some ⟨bd, 0, none⟩)] W (VMntRes bd n K F (mntC c L P K) W) := by
  have HM := hide (bmount_fin bd n F c m L P K W hd hm hc ht hL hP hK hn hnn hF)
  have HC0 := hide (show ((((mntD c L P K).read 0)).read 1).c = mntC c L P K from rfl)
  have HM0 := hide (show ((((mntD c L P K).read 0)).read 1).m = 0 from rfl)
  clear hd ht hc
  generalize ((mntD c L P K).read 0).read 1 = d0 at *
  go_enter Tryz.func15, Tryz.ntmps15
  go_wp2_with fail
  refine HM.out.mono ?_
  rintro e w1 ⟨s, xb, fb, e1, e2, e3, e4, rfl, hbox, F1, hp, hk, hs⟩
  have HBx := hide hbox
  have HP := hide hp
  have HK := hide hk
  have HS := hide hs
  clear hbox hp hk hs HM
  go_wp2_with fail
  refine (recover_none xb fb s.bs (K : Int) w1 HBx.out).mono ?_
  rintro e w2 ⟨rfl, hb⟩
  have hb3 : Below w1.heap.size w1 (w2.alloc (.cells [.pointer (some ⟨xb, 0, none⟩)].toArray 82)) := hb.alloc hb.size _
  have HV := hide (Whole.new w2 [.pointer (some ⟨xb, 0, none⟩)] 82)
  have HB3 := hide hb3
  clear hb hb3
  go_wp2_with fail
  have hds : Ds (w2.alloc (.cells [.pointer (some ⟨xb, 0, none⟩)].toArray 82)) bd n F1 (mntC c L P K) 0 := by
    obtain ⟨_, _, _, hp, _⟩ := HP.out.below HB3.out
    have := hp.ld.ds
    rwa [e1, e2, HC0.out, HM0.out] at this
  exact bodyPost_ret (v := .tuple #[.pointer (some ⟨w2.heap.size, 0, none⟩), .int .i64 0]) (by simp [results, Tryz.results15, go_sem]) rfl ⟨w2.heap.size, xb, fb, s.bs, F1, rfl, HV.out, HBx.out.below HB3.out, hds, HK.out.trans (Kp.of_below (F := NoF) HB3.out) (fun _ h => h.elim), HS.out⟩
/-- behind Begins: a state, its disk, its vault -/
def BegRes (n K : Nat) (c : Nat → List Int) (W : World) (e : Ending) (W' : World) : Prop :=
  ∃ (tb bd vb xb fb sb : Nat) (F' : Nat → Prop), e = .returned (.tuple #[.pointer (some ⟨tb, 0, none⟩), .bool true]) ∧ W'.cell? ⟨tb, 0, none⟩ = some (.pointer (some ⟨bd, 0, none⟩)) ∧ W'.cell? ⟨tb, 1, none⟩ = some (.pointer (some ⟨vb, 0, none⟩)) ∧ tb < W'.heap.size ∧
    Whole W' vb 82 [.pointer (some ⟨xb, 0, none⟩)] ∧ Box0 W' xb fb sb (K : Int) ∧ Ds W' bd n F' c 0 ∧ Below W.heap.size W W'
set_option maxHeartbeats 4000000 in
set_option maxRecDepth 20000 in
theorem begins_any (L P K : Nat) (W : World) (ht : Tab W) (htz : TabZ W) (hW : 0 < W.heap.size ∧ 1 < W.heap.size) (hL : 96 ≤ L ∧ L ≤ 512) (hP : 64 ≤ P ∧ P ≤ 1024) (hK : 3 ≤ K ∧ K ≤ 200) (hn : 2 + L + P + 5 * K ≤ 4096) :
    Calls Tryz.prog 7 #[.agg #[.int .i64 (L : Int), .int .i64 (P : Int), .int .i64 (K : Int)]] W (BegRes (2 + L + P + 5 * K) K (mntC (fun _ => zeros 512) L P K) W) := by
  have HT := hide ht
  have HTz := hide htz
  have HX1 := hide (Whole.new W [.int .i64 (L : Int), .int .i64 (P : Int), .int .i64 (K : Int)] 24)
  have HB1 := hide (show Below W.heap.size W (W.alloc (.cells [.int .i64 (L : Int), .int .i64 (P : Int), .int .i64 (K : Int)].toArray 24)) from (Below.refl _ _).alloc (Nat.le_refl _) _)
  clear ht htz
  have g1 : IntKind.i64.wrap (2 + (L : Int)) = 2 + (L : Int) := IntWalk.i64_in _ (by omega)
  have g2 : IntKind.i64.wrap (2 + (L : Int) + (P : Int)) = 2 + (L : Int) + (P : Int) := IntWalk.i64_in _ (by omega)
  have g3 : IntKind.i64.wrap (5 * (K : Int)) = 5 * (K : Int) := IntWalk.i64_in _ (by omega)
  have g4 : IntKind.i64.wrap (2 + (L : Int) + (P : Int) + 5 * (K : Int)) = ((2 + L + P + 5 * K : Nat) : Int) := by rw [IntWalk.i64_in _ (by omega)]; omega
  go_enter Tryz.func7, Tryz.ntmps7
  go_upto_region 1 with fail
  change Code.wp _ _ _ _ (W.alloc (.cells [.int .i64 (L : Int), .int .i64 (P : Int), .int .i64 (K : Int)].toArray 24))
  generalize W.alloc (.cells [.int .i64 (L : Int), .int .i64 (P : Int), .int .i64 (K : Int)].toArray 24) = w1 at *
  have y0 := HX1.out.cell 0
  have y1 := HX1.out.cell 1
  have y2 := HX1.out.cell 2
  simp only [List.getElem?_cons_zero, List.getElem?_cons_succ] at y0 y1 y2
  go_wp2_with fail
  refine (dnew_ds (2 + L + P + 5 * K) w1 (by omega) hn).mono ?_
  rintro e w2 ⟨bd, F, rfl, hd, hb, hF⟩
  have HD2 := hide hd
  have HX2 := hide (HX1.out.below hb HX1.out.lt)
  have HB2 := hide (HB1.out.trans (hb.mono HB1.out.size))
  have HF2 := hide hF
  have hsz1 := HB1.out.size
  have hxl := HX1.out.lt
  have hsz2 := hb.size
  clear hd hb hF y0 y1 y2 HX1 HB1
  have y0 := HX2.out.cell 0
  have y1 := HX2.out.cell 1
  have y2 := HX2.out.cell 2
  simp only [List.getElem?_cons_zero, List.getElem?_cons_succ] at y0 y1 y2
  have HFm := hide (vformat_ok bd (2 + L + P + 5 * K) F _ 0 L P K w2 HD2.out (by decide) (fun _ => rfl) (tab_below HT.out HB2.out) (tabz_below HTz.out HB2.out) (fun k hk => by have := HF2.out k hk; omega) (hi_mono hW HB2.out.size) hL hP hK (Nat.le_refl _))
  clear g1 g2 g3 g4
  generalize hN : 2 + L + P + 5 * K = N at *
  have HN := hide hN
  clear hN
  go_wp2_with fail
  refine HFm.out.mono ?_
  rintro e w3 ⟨rfl, F', h1, h2, h3⟩
  have HT3 := hide ((tab_below HT.out HB2.out).kp h2 (fun hf => by have := HF2.out _ hf; omega))
  have HB3 := hide (HB2.out.trans (h2.below HB2.out.size (fun i hi => Nat.le_trans hsz1 (HF2.out i hi))))
  have HD3 := hide h1
  have HF3 := hide (show ∀ k, F' k → w1.heap.size ≤ k from fun k hk => (h3 k hk).elim (HF2.out k) (fun hh => Nat.le_trans hsz2 hh))
  clear h1 h2 h3 HFm HD2 y0 y1 y2 HX2
  go_wp2_with fail
  have HMt := hide (vmount_fin bd N F' (fun _ => zeros 512) 0 L P K w3 HD3.out (by decide) (fun _ => rfl) HT3.out hL hP hK (Nat.le_of_eq HN.out) (by have := HN.out; omega) (fun hf => by have := HF3.out _ hf; omega))
  refine HMt.out.mono ?_
  rintro e w4 ⟨vb, xb, fb, sb, F4, rfl, hv, hbx, hds, hk4, hf4⟩
  have HV := hide hv
  have HBx := hide hbx
  have HDs := hide hds
  have HB4 := hide (HB3.out.trans (hk4.below HB3.out.size (fun i hi => Nat.le_trans hsz1 (HF3.out i hi))))
  clear hv hbx hds hk4 hf4 HMt HD3
  go_upto_region 6 with fail
  have hb5 : Below w4.heap.size w4 (w4.alloc (.cells [.pointer (some ⟨bd, 0, none⟩), .pointer (some ⟨vb, 0, none⟩), .slice none 0 0, .slice none 0 0].toArray 44)) := (Below.refl _ _).alloc (Nat.le_refl _) _
  have hx5 := Whole.new w4 [.pointer (some ⟨bd, 0, none⟩), .pointer (some ⟨vb, 0, none⟩), .slice none 0 0, .slice none 0 0] 44
  have hN := HN.out
  subst hN
  exact bodyPost_ret (v := .tuple #[.pointer (some ⟨w4.heap.size, 0, none⟩), .bool true]) (by simp [results, Tryz.results7, go_sem]) rfl ⟨w4.heap.size, bd, vb, xb, fb, sb, F4, rfl, hx5.cell 0, hx5.cell 1, hx5.lt, HV.out.below hb5 HV.out.lt, HBx.out.below hb5, HDs.out.below hb5, HB4.out.trans (hb5.mono HB4.out.size)⟩
end Go.Proofs.YtnnfiicmplkakaaGreatDoor
namespace Go.Proofs.YtnnfiicmplkakaaGreatDoor
open Go.RowKit Go.Shelf

theorem down_max (n : Int) (k : Nat) (j : Nat) (hj : down n k < j) (hk : j ≤ k) : fitB n 96 (pgs (j : Int)) (j : Int) = false := by
  induction k with
  | zero => omega
  | succ k ih =>
    rw [down_succ] at hj
    split at hj
    · omega
    · rename_i h
      by_cases e : j = k + 1
      · subst e
        exact Bool.eq_false_iff.2 h
      · exact ih hj (by omega)
theorem down_fit (n : Int) (k : Nat) (h : down n k ≠ 0) : fitB n 96 (pgs ((down n k : Nat) : Int)) ((down n k : Nat) : Int) = true := by
  induction k with
  | zero => exact absurd rfl h
  | succ k ih =>
    rw [down_succ] at h ⊢
    split
    · assumption
    · rename_i hh
      rw [if_neg hh] at h
      exact ih h
set_option maxHeartbeats 1000000 in
theorem vlist_none (vb xb fb sb : Nat) (K : Int) (W : World) (hv : Whole W vb 82 [.pointer (some ⟨xb, 0, none⟩)]) (h : Box0 W xb fb sb K) : Calls Tryz.prog 9 #[.pointer (some ⟨vb, 0, none⟩)] W fun e w' => e = .returned (.tuple #[.slice none 0 0, .int .i64 0]) ∧ Below W.heap.size W w' := by
  have HL := hide (list_none xb fb sb K W h)
  have c0 : W.cell? ⟨vb, 0, none⟩ = some (.pointer (some ⟨xb, 0, none⟩)) := hv.cell 0
  have HS := hide (show Calls Tryz.prog 24 #[.pointer (some ⟨vb, 0, none⟩)] W fun e w' => e = .returned (.pointer (some ⟨xb, 0, none⟩)) ∧ W = w' from by
    clear hv h HL
    go_enter Tryz.func24, Tryz.ntmps24
    go_wp2
    go_ret
    exact ⟨rfl, rfl⟩)
  clear hv h c0
  go_enter Tryz.func9, Tryz.ntmps9
  go_wp2_with fail
  refine HS.out.mono ?_
  rintro e w' ⟨rfl, rfl⟩
  go_wp2_with fail
  refine HL.out.mono ?_
  rintro e w2 ⟨rfl, hb⟩
  have HB := hide hb
  clear hb
  go_wp2_with fail
  exact bodyPost_ret (v := .tuple #[.slice none 0 0, .int .i64 0]) (by simp [results, Tryz.results9, go_sem]) rfl ⟨rfl, HB.out⟩
/-- what lies in memory while the law goes on -/
structure BsL (W w : World) (cb tb bd vb xb fb sb n : Nat) (F : Nat → Prop) (c : Nat → List Int) (P D : Int) : Prop where
  cfg : Whole w cb 24 [.int .i64 96, .int .i64 P, .int .i64 D]
  tlt : tb < w.heap.size
  t0 : w.cell? ⟨tb, 0, none⟩ = some (.pointer (some ⟨bd, 0, none⟩))
  t1 : w.cell? ⟨tb, 1, none⟩ = some (.pointer (some ⟨vb, 0, none⟩))
  v : Whole w vb 82 [.pointer (some ⟨xb, 0, none⟩)]
  bx : Box0 w xb fb sb D
  ds : Ds w bd n F c 0
  bel : Below W.heap.size W w
theorem BsL.below {W w w' : World} {cb tb bd vb xb fb sb n : Nat} {F : Nat → Prop} {c : Nat → List Int} {P D : Int} (h : BsL W w cb tb bd vb xb fb sb n F c P D) (hb : Below w.heap.size w w') : BsL W w' cb tb bd vb xb fb sb n F c P D :=
  ⟨h.cfg.below hb h.cfg.lt, Nat.lt_of_lt_of_le h.tlt hb.size, (hb.cell (p := ⟨tb, 0, none⟩) h.tlt).trans h.t0, (hb.cell (p := ⟨tb, 1, none⟩) h.tlt).trans h.t1, h.v.below hb h.v.lt, h.bx.below hb, h.ds.below hb, h.bel.trans (hb.mono h.bel.size)⟩
set_option maxHeartbeats 4000000 in
set_option maxRecDepth 20000 in
theorem fenceBest_any (x : Int) (hx : 0 ≤ x ∧ x < 65536) (W : World) (ht : Tab W) (htz : TabZ W) (hW : 0 < W.heap.size ∧ 1 < W.heap.size) : Calls Tryz.prog 3 #[.int .u16 x] W fun e w' => e = .returned (.bool true) ∧ Below W.heap.size W w' := by
  have HWk := hide (show ∀ w, Below W.heap.size W w → Calls Tryz.prog 6 #[] w fun e w' => e = .returned (.bool true) ∧ Below w.heap.size w w' from fun w hb => wakes_any w (tab_below ht hb) (tabz_below htz hb) (hi_mono hW hb.size))
  have HT := hide ht
  have HTz := hide htz
  clear ht htz
  have hw0 : IntKind.i64.wrap x = x := IntWalk.i64_in _ (by omega)
  go_enter Tryz.func3, Tryz.ntmps3
  go_upto_region 2 with fail
  obtain ⟨N, hN⟩ : ∃ N : Nat, x % 1500 = N := ⟨(x % 1500).toNat, by omega⟩
  rw [hN]
  have hN2 : N < 1500 := by omega
  have HBest := fun w => hide (fbest_any (N : Int) w)
  have HV := hide (show bestV (N : Int) = if down (N : Int) 200 = 0 then .tuple #[cfgV 0 0 0, .bool false] else .tuple #[cfgV 96 (pgs (down (N : Int) 200 : Nat)) (down (N : Int) 200 : Nat), .bool true] from rfl)
  have HMax := hide (down_max (N : Int) 200)
  have HFit := hide (down_fit (N : Int) 200)
  have hDle := down_le (N : Int) 200
  generalize bestV (N : Int) = V at *
  generalize down (N : Int) 200 = D at *
  clear hN hw0 hx
  go_wp2_with fail
  refine (HBest _).out.mono ?_
  rintro e w2 ⟨rfl, hb⟩
  have HB2 := hide hb
  clear hb HBest
  by_cases hD : D = 0
  · have HVal := hide (show V = .tuple #[.agg #[.int .i64 0, .int .i64 0, .int .i64 0], .bool false] from by rw [HV.out, if_pos hD]; rfl)
    subst hD
    rw [HVal.out]
    have hf : fitB (N : Int) 96 72 3 = false := HMax.out 3 (by decide) (by decide)
    have HF3 := fun w => hide (ffits_any (N : Int) 96 72 3 w)
    rw [hf] at HF3
    have HB3 := hide (HB2.out.alloc HB2.out.size (.cells #[.int .i64 0, .int .i64 0, .int .i64 0] 24))
    clear HV HVal HMax HFit HB2 hf
    go_wp2_with fail
    generalize w2.alloc (.cells #[.int .i64 0, .int .i64 0, .int .i64 0] 24) = w3 at *
    refine (HF3 _).out.mono ?_
    rintro e w4 ⟨rfl, hb⟩
    have HB4 := hide (HB3.out.trans (hb.mono HB3.out.size))
    clear hb HB3
    go_wp2_with fail
    refine (HWk.out w4 HB4.out).mono ?_
    rintro e w5 ⟨rfl, hb⟩
    have HB5 := hide (HB4.out.trans (hb.mono HB4.out.size))
    clear hb
    go_wp2_with fail
    go_ret
    exact ⟨rfl, HB5.out⟩
  · have HVal := hide (show V = .tuple #[.agg #[.int .i64 96, .int .i64 (pgs (D : Int)), .int .i64 (D : Int)], .bool true] from by rw [HV.out, if_neg hD]; rfl)
    have hft : fitB (N : Int) 96 (pgs (D : Int)) (D : Int) = true := HFit.out hD
    have hpb := pgs_bound (D : Int)
    have HPg := hide (show pgs ((D + 1 : Nat) : Int) = min 560 (max 64 (48 + 8 * ((D + 1 : Nat) : Int))) from pgs_minmax _)
    obtain ⟨P, hP⟩ : ∃ P : Nat, pgs (D : Int) = P := ⟨(pgs (D : Int)).toNat, by omega⟩
    rw [hP] at hft HVal
    have hfd := of_decide_eq_true hft
    have HFt := hide hft
    rw [HVal.out]
    clear HV HVal HFit hft
    have HX3 := hide (Whole.new w2 [.int .i64 96, .int .i64 (P : Int), .int .i64 (D : Int)] 24)
    have HB3 := hide (HB2.out.alloc HB2.out.size (.cells [.int .i64 96, .int .i64 (P : Int), .int .i64 (D : Int)].toArray 24))
    clear HB2
    go_upto_region 3 with fail
    change Code.wp _ _ _ _ (w2.alloc (.cells [.int .i64 96, .int .i64 (P : Int), .int .i64 (D : Int)].toArray 24))
    generalize w2.alloc (.cells [.int .i64 96, .int .i64 (P : Int), .int .i64 (D : Int)].toArray 24) = w3 at *
    generalize w2.heap.size = cb at *
    have y0 := HX3.out.cell 0
    have y1 := HX3.out.cell 1
    have y2 := HX3.out.cell 2
    simp only [List.getElem?_cons_zero, List.getElem?_cons_succ] at y0 y1 y2
    have HBg := hide (begins_any 96 P D w3 (tab_below HT.out HB3.out) (tabz_below HTz.out HB3.out) (hi_mono hW HB3.out.size) (by decide) (by omega) (by omega) (by omega))
    go_wp2_with fail
    refine HBg.out.mono ?_
    rintro e w4 ⟨tb, bd, vb, xb, fb, sb, F', rfl, t0, t1, tlt, hv, hbx, hds, hb4⟩
    have HL4 := hide (show BsL W w4 cb tb bd vb xb fb sb (2 + 96 + P + 5 * D) F' (mntC (fun _ => zeros 512) 96 P D) P D from ⟨HX3.out.below hb4 HX3.out.lt, tlt, t0, t1, hv, hbx, hds, HB3.out.trans (hb4.mono HB3.out.size)⟩)
    clear hv hbx hds hb4 HX3 HB3 HBg y0 y1 y2 t0 t1 tlt
    have y0 := HL4.out.cfg.cell 0
    have y1 := HL4.out.cfg.cell 1
    have y2 := HL4.out.cfg.cell 2
    simp only [List.getElem?_cons_zero, List.getElem?_cons_succ] at y0 y1 y2
    have HF4 := fun w => hide (ffits_any (N : Int) 96 (P : Int) (D : Int) w)
    rw [HFt.out] at HF4
    go_wp2_with fail
    refine (HF4 _).out.mono ?_
    rintro e w5 ⟨rfl, hb⟩
    have HL5 := hide (HL4.out.below hb)
    clear hb HL4 HF4 y0 y1 y2
    have y0 := HL5.out.cfg.cell 0
    have y2 := HL5.out.cfg.cell 2
    simp only [List.getElem?_cons_zero, List.getElem?_cons_succ] at y0 y2
    have u1 : IntKind.i64.wrap ((D : Int) + 1) = (D : Int) + 1 := IntWalk.i64_in _ (by omega)
    have u2 : IntKind.i64.wrap (8 * ((D : Int) + 1)) = 8 * ((D : Int) + 1) := IntWalk.i64_in _ (by omega)
    have u3 : IntKind.i64.wrap (48 + 8 * ((D : Int) + 1)) = 48 + 8 * ((D : Int) + 1) := IntWalk.i64_in _ (by omega)
    go_upto_region 9 with fail
    have hm : D ≠ 200 → fitB (N : Int) 96 (min 560 (48 + 8 * ((D : Int) + 1))) ((D : Int) + 1) = false := fun h => by
      have h1 := HMax.out (D + 1) (by omega) (by omega)
      rw [HPg.out, show max 64 (48 + 8 * ((D + 1 : Nat) : Int)) = 48 + 8 * ((D : Int) + 1) from by omega, show ((D + 1 : Nat) : Int) = (D : Int) + 1 from by omega] at h1
      exact h1
    have HMr := hide hm
    have HFx := fun p k w => hide (ffits_any (N : Int) 96 p k w)
    clear hm HMax HPg u1 u2 u3 y0 y2
    generalize min 560 (48 + 8 * ((D : Int) + 1)) = mp at *
    have HMo := hide (Whole.new w5 [.int .i64 96, .int .i64 mp, .int .i64 ((D : Int) + 1)] 24)
    have HL6 := hide (HL5.out.below ((Below.refl w5.heap.size w5).alloc (Nat.le_refl _) (.cells [.int .i64 96, .int .i64 mp, .int .i64 ((D : Int) + 1)].toArray 24)))
    clear HL5
    change Code.wp _ _ _ _ (w5.alloc (.cells [.int .i64 96, .int .i64 mp, .int .i64 ((D : Int) + 1)].toArray 24))
    generalize w5.alloc (.cells [.int .i64 96, .int .i64 mp, .int .i64 ((D : Int) + 1)].toArray 24) = w6 at *
    generalize w5.heap.size = mb at *
    have t0 := HL6.out.t0
    have HLk := hide (look_mnt bd (2 + 96 + P + 5 * D) F' _ 0 96 P D w6 HL6.out.ds (by decide) (by omega) (fun _ => rfl) (tab_below HT.out HL6.out.bel) (by decide) (by omega) (by omega) (Nat.le_refl _))
    have hsp : ((2 + 96 + P + 5 * D : Nat) : Int) - 2 - ((96 : Nat) : Int) - (P : Int) - 5 * (D : Int) = 0 := by omega
    rw [hsp] at HLk
    unfold shpV shC at HLk
    clear hsp
    go_wp2_with fail
    refine HLk.out.mono ?_
    rintro e w7 ⟨rfl, hb⟩
    have HL7 := hide (HL6.out.below hb)
    have HMo7 := hide (HMo.out.below hb HMo.out.lt)
    clear hb HLk HL6 HMo t0
    have HX8 := hide (Whole.new w7 [.int .i64 96, .int .i64 (P : Int), .int .i64 (D : Int), .int .i64 0, .int .i64 0] 33)
    have HB8 := hide (show Below w7.heap.size w7 (w7.alloc (.cells [.int .i64 96, .int .i64 (P : Int), .int .i64 (D : Int), .int .i64 0, .int .i64 0].toArray 33)) from (Below.refl _ _).alloc (Nat.le_refl _) _)
    go_upto_region 10 with fail
    change Code.wp _ _ _ _ (w7.alloc (.cells [.int .i64 96, .int .i64 (P : Int), .int .i64 (D : Int), .int .i64 0, .int .i64 0].toArray 33))
    generalize w7.alloc (.cells [.int .i64 96, .int .i64 (P : Int), .int .i64 (D : Int), .int .i64 0, .int .i64 0].toArray 33) = w8 at *
    have y4 := HX8.out.cell 4
    have x4 := HX8.out.frozen 4
    simp only [List.getElem?_cons_zero, List.getElem?_cons_succ] at y4
    go_upto_region 12 with fail
    have hxc := HX8.out.set_ 4 (.int .i64 0)
    simp only [List.set_cons_succ, List.set_cons_zero] at hxc
    have HXc := hide hxc
    have hbc := HB8.out.setCell (p := ⟨w7.heap.size, 4, none⟩) (Nat.le_refl _) (.int .i64 0)
    have HL9 := hide (HL7.out.below hbc)
    have HMo9 := hide (HMo7.out.below hbc HMo7.out.lt)
    clear hxc hbc y4 x4 HX8 HB8 HL7 HMo7
    generalize w8.setCell ⟨w7.heap.size, 4, none⟩ (.int .i64 0) = w9 at *
    generalize w7.heap.size = sx at *
    have t1 := HL9.out.t1
    have HLs := hide (vlist_none vb xb fb sb (D : Int) w9 HL9.out.v HL9.out.bx)
    go_wp2_with fail
    refine HLs.out.mono ?_
    rintro e wa ⟨rfl, hb⟩
    have HLa := hide (HL9.out.below hb)
    have HXa := hide (HXc.out.below hb HXc.out.lt)
    have HMa := hide (HMo9.out.below hb HMo9.out.lt)
    clear hb HL9 HXc HMo9 HLs t1
    have y0 := HLa.out.cfg.cell 0
    have y1 := HLa.out.cfg.cell 1
    have y2 := HLa.out.cfg.cell 2
    have z0 := HXa.out.cell 0
    have z1 := HXa.out.cell 1
    have z2 := HXa.out.cell 2
    have z3 := HXa.out.cell 3
    have z4 := HXa.out.cell 4
    have m0 := HMa.out.cell 0
    have m1 := HMa.out.cell 1
    have m2 := HMa.out.cell 2
    simp only [List.getElem?_cons_zero, List.getElem?_cons_succ] at y0 y1 y2 z0 z1 z2 z3 z4 m0 m1 m2
    by_cases h200 : D = 200
    · have b2 : ((D : Int) == 200) = true := beq_iff_eq.2 (by omega)
      go_wp2_with fail
      refine (HWk.out _ HLa.out.bel).mono ?_
      rintro e wb ⟨rfl, hb⟩
      have HBb := hide (HLa.out.bel.trans (hb.mono HLa.out.bel.size))
      clear hb
      go_wp2_with fail
      go_ret
      exact ⟨rfl, HBb.out⟩
    · have b2 : ((D : Int) == 200) = false := beq_false_of_ne (by omega)
      have hfm := HMr.out h200
      have HFm := fun w => hide (ffits_any (N : Int) 96 mp ((D : Int) + 1) w)
      rw [hfm] at HFm
      clear hfm
      go_wp2_with fail
      refine (HFm _).out.mono ?_
      rintro e wc ⟨rfl, hb⟩
      have HLc := hide (HLa.out.below hb)
      have HXd := hide (HXa.out.below hb HXa.out.lt)
      clear hb y0 y1 y2 z0 z1 z2 z3 z4 m0 m1 m2
      have y0 := HLc.out.cfg.cell 0
      have y1 := HLc.out.cfg.cell 1
      have y2 := HLc.out.cfg.cell 2
      have z0 := HXd.out.cell 0
      have z1 := HXd.out.cell 1
      have z2 := HXd.out.cell 2
      have z3 := HXd.out.cell 3
      have z4 := HXd.out.cell 4
      simp only [List.getElem?_cons_zero, List.getElem?_cons_succ] at y0 y1 y2 z0 z1 z2 z3 z4
      go_wp2_with fail
      refine (HWk.out _ HLc.out.bel).mono ?_
      rintro e wb ⟨rfl, hb⟩
      have HBb := hide (HLc.out.bel.trans (hb.mono HLc.out.bel.size))
      clear hb
      go_wp2_with fail
      go_ret
      exact ⟨rfl, HBb.out⟩
end Go.Proofs.YtnnfiicmplkakaaGreatDoor
namespace Go.Proofs.YtnnfiicmplkakaaGreatDoor
open Go.ChangeShapes Go.WideShapes Go.ChangeAt Go.RowKit

theorem own : ownKnob Tryz.prog.godebug = none := by kernel_rfl
theorem laidOut : laidOutB Tryz.prog = true := by kernel_rfl

section
variable {H : Type} {enc : TypeId × Value → H} {W W' : World}
/-- the types of the parameters are read whole -/
noncomputable def readable (ts : List TypeId) : Bool := ts.all fun t => Tryz.prog.readableRec t && decide (t < Tryz.prog.types.size)
theorem all_again (hb : Below W.heap.size W W') {sp : Nat → Bool} (ts : List TypeId) : ∀ (vs : List Value) (ds : List (DataW H)) (ps : List MemPlace), readable ts = true → DataW.TrodAll enc Tryz.prog W 0 (fun _ => true) true ts vs ds ps →
    (∀ x ∈ ps, x.block < W.heap.size) → (∀ x ∈ ps, sp x.block = true) → DataW.TrodAll enc Tryz.prog W' 0 sp true ts vs ds ps := by
  induction ts with
  | nil =>
    intro vs ds ps _ h _ _
    obtain ⟨rfl, rfl, rfl⟩ := trodAll_nil h
    exact trodAll_mk0
  | cons t ts ih =>
    intro vs ds ps hr h hl hs
    obtain ⟨v, vs', d, ds', p, q, rfl, rfl, rfl, h1, h2⟩ := trodAll_cons h
    unfold readable at hr ih
    rw [List.all_cons, Bool.and_eq_true, Bool.and_eq_true, decide_eq_true_eq] at hr
    exact trodAll_cons_mk (WideElems.Trod_stays laidOut hr.1.1 hr.1.2 h1 (fun x hx => hb.same (hl x (List.mem_append_left _ hx))) (fun x hx => hs x (List.mem_append_left _ hx)))
      (ih _ _ _ hr.2 h2 (fun x hx => hl x (List.mem_append_right _ hx)) (fun x hx => hs x (List.mem_append_right _ hx)))

set_option maxRecDepth 100000 in
/-- The post of a law that answers true and turns nothing that stood. -/
theorem post_law {f : Func} {s : ChangeSpec} {apart fresh handsOn again : Bool} {args : Array Value} {ds gs : List (DataW H)} {before : List MemPlace} (hvars : s.vars = []) (hr : readable f.params.toList = true) (ht : f.resultTypes = #[4])
    (hres : (s.fn H (ds ++ gs)).results = [.lit (.bool true)]) (hargs : (s.fn H (ds ++ gs)).args = ds) (hvs : (s.fn H (ds ++ gs)).vars = [])
    (hW : DataW.Whole enc Tryz.prog f.params.toList s.vars apart W args.toList ds gs before) (hb : Below W.heap.size W W') :
    s.post enc Tryz.prog f apart fresh handsOn again W args (.bool true) W' := by
  have hlt : ∀ p ∈ before, p.block < W.heap.size := fun p hp => hW.lt p hp
  have hold : ∀ p ∈ before, (fun b => decide (b < W.heap.size)) p.block = true := fun p hp => by simpa using hlt p hp
  have hW' := hW
  obtain ⟨pa, pv, hA, hV, hps, hz, hn⟩ := hW'
  have hpv : pv = [] := by
    rw [hvars] at hV
    exact (trodVars_none hV).2
  subst hpv
  rw [List.append_nil] at hps
  subst hps
  have ha : ∀ sp : Nat → Bool, (∀ p ∈ before, sp p.block = true) → DataW.TrodAll enc Tryz.prog W' 0 sp true f.params.toList args.toList (s.fn H (ds ++ gs)).args before := fun sp hsp => by
    rw [hargs]
    exact all_again hb _ _ _ _ hr hA hlt hsp
  have hv : ∀ sp : Nat → Bool, DataW.TrodVars enc Tryz.prog W' sp s.vars (s.fn H (ds ++ gs)).vars [] := fun sp => by
    rw [hvars, hvs]
    rfl
  have hrs : ∀ (b : Nat) (sp : Nat → Bool) (hd : Bool), DataW.TrodAll enc Tryz.prog W' b sp hd f.resultTypes.toList ((Value.bool true).resultList f.resultTypes.size) (s.fn H (ds ++ gs)).results [] := fun b sp hd => by
    rw [hres, ht]
    exact trodAll_mk1 (shut_bool Tryz.underlying4 _)
  refine ⟨ds, gs, before, [], before, [], hW, hrs _ _ _, ha _ hold, hv _, World.keptBut_mono (fun p hp => ⟨hp, ?_⟩) (hb.frame (· ∈ before)), fun _ => ?_⟩
  · simp [hp]
  · refine ⟨ok_one ht rfl (okWide_bool_mk Tryz.underlying4 _), _, _, ([] ++ before) ++ [], ⟨[] ++ before, [], trodAll_append (ha _ (fun _ _ => rfl)) (hrs _ _ _), hv _, rfl, ?_, ?_⟩, ?_⟩
    · intro b off hp
      have hin : MemPlace.cell b off ∈ before := by simpa using hp
      rw [hb.frozen (hlt _ hin)]
      exact hz b off hin
    · intro ha
      simpa using hn ha
    · intro p hp _
      simpa using hp
end

/-- a block's cells laid anew -/
def fillCells (cs : Array Value) : Obj → Obj
  | .cells _ t frozen => .cells cs t frozen
  | o => o
def rangesZ : List Int := [128, 191, 160, 191, 128, 159, 144, 191, 128, 143] ++ List.replicate 22 0
/-- A WORLD FOR THE WITNESS: the settled one, the four tables holding what their initialisers lay. -/
noncomputable def laidWorld (os : Os) : World :=
  { World.holding Tryz.prog os ⟨#[], #[], []⟩ with heap := ((((World.holding Tryz.prog os ⟨#[], #[], []⟩).heap.modify 0 (fillCells (halves.map fun z => Value.int .u32 z).toArray)).modify 1 (fillCells (Lib.deBruijn64tab.map fun z => Value.int .u8 (z : Nat)).toArray)).modify 3 (fillCells (Pinned.utf8FirstZ.map fun z => Value.int .u8 (z : Nat)).toArray)).modify 4 (fillCells (rangesZ.map fun z => Value.int .u8 z).toArray) }
theorem laid_met_best (os : Os) : laidMet Tryz.prog Rows.fenceBestRow.laid ((laidWorld os).forCall (fun _ _ => 0) ⟨#[], #[.int .u16 0], []⟩).memory :=
  laidMet_of_run' 8 (by kernel_rfl) (by kernel_rfl)
theorem tab_of {W : World} (h : laidMet Tryz.prog Rows.fenceBestRow.laid W) : Tab W ∧ TabZ W := by
  have h1 : Lib.TabIs Tryz.prog W "armarium/crc.halves" .u32 halves := Lib.tabIs_of_head (g := 0) (t := 276) (e := 168) (n := 16) (by kernel_rfl) (by kernel_rfl) Tryz.underlying276 Tryz.underlying168 (by kernel_rfl) (by kernel_rfl) h
  have h2 : Lib.TabIs Tryz.prog W "math/bits.deBruijn64tab" .u8 (Lib.deBruijn64tab.map fun (z : Nat) => (z : Int)) := Lib.tabIs_of_head (g := 1) (t := 289) (e := 5) (n := 64) (by kernel_rfl) (by kernel_rfl) Tryz.underlying289 Tryz.underlying5 (by kernel_rfl) (by kernel_rfl) (laidMet.tail h)
  refine ⟨fun j hj => h1.cell (by kernel_rfl) j hj, fun j hj => ?_⟩
  have h3 := h2.cell (g := 1) (by kernel_rfl) j (by rw [List.length_map]; exact hj)
  rw [h3]
  congr 2
  simp [List.getD, hj]
end Go.Proofs.YtnnfiicmplkakaaGreatDoor
