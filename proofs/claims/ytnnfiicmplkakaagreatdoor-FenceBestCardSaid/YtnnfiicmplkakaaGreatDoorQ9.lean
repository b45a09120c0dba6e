/- Walks of forest.Shape, (*Forest).page. Walks of (*Store).used, sets. Walk of (*Forest).load. Walk of (*Store).Alloc; small words. The pages of a change in their order; (*Store).text's bytes. Walk of (*Store).text, where a page map's keys come sorted. DERIVED: THE SHELF's CONTRACTS AT THIS DUMP, IN PLAIN WORDS (tools/lay-plain.mjs out of 'YtnnfiicmplkakaaGreatDoorShelf20.lean', which tools/lay-shelf.mjs wrote): THE SAME DECLARATIONS UNDER THE SAME NAMES: 'import', 'namespace', 'open', 'def', 'theorem' AND NOTHING ELSE: no command of the shelf's: FOR A HAND-IN. Each laying: the table of numbers ('.._ren') and one theorem, a field a fact of the dump's own or the kernel's comparison; each contract: ONE APPLICATION. A page map's keys, sorted; walk of (*Store).text. A map's entry and the store into it; clear; walk of (*Store).Abort. Walk of (*Store).Commit. -/
import Derived.Test.YtnnfiicmplkakaaGreatDoorQ8
import Derived.Lib.SlKeysI
import Derived.Shelf.SlIterI.Nil
import Derived.Shelf.SortM.Plain
import Derived.Shelf.SortM.SortNone
import Derived.Ground.GgzProg
import Derived.Ground.SlgmProg
import Derived.Test.YtnnfiicmplkakaaGreatDoorProg
import Derived.WideKeyEntry
namespace Go.Proofs.YtnnfiicmplkakaaGreatDoor
open Go.RowKit Go.Shelf

def kwOf (i : Nat) : Int := [32, 32, 4, 17, 1, 32, 33, 2].getD i 0
def vwOf (i : Nat) : Int := [4, 6, 4, 33, 1, 5, 4, 5].getD i 0
theorem kv_bounds (i : Nat) (hi : i < 8) : 1 ≤ kwOf i ∧ kwOf i ≤ 64 ∧ 0 ≤ vwOf i ∧ vwOf i ≤ 64 := by
  have h : i = 0 ∨ i = 1 ∨ i = 2 ∨ i = 3 ∨ i = 4 ∨ i = 5 ∨ i = 6 ∨ i = 7 := by omega
  rcases h with rfl | rfl | rfl | rfl | rfl | rfl | rfl | rfl <;> decide
def shpN (i : Nat) : Value := .agg #[.int .i64 (kwOf i), .int .i64 (vwOf i)]
def shapes8 : Value := .agg #[.int .i64 32, .int .i64 4, .int .i64 32, .int .i64 6, .int .i64 4, .int .i64 4, .int .i64 17, .int .i64 33, .int .i64 1, .int .i64 1, .int .i64 32, .int .i64 5, .int .i64 33, .int .i64 4, .int .i64 2, .int .i64 5]
theorem nshInfo : (Tryz.prog.info? 151).map (·.size) = some 2 := by kernel_rfl
theorem shp_at (w : World) : ∀ i : Nat, i < 8 → (Instr.index 263 shapes8 (.int .i64 (i : Int))).run Tryz.prog w = .ok (shpN i) w
  | 0, _ => by kernel_rfl
  | 1, _ => by kernel_rfl
  | 2, _ => by kernel_rfl
  | 3, _ => by kernel_rfl
  | 4, _ => by kernel_rfl
  | 5, _ => by kernel_rfl
  | 6, _ => by kernel_rfl
  | 7, _ => by kernel_rfl
  | n + 8, h => absurd h (by omega)
set_option maxHeartbeats 1000000 in
theorem shape_any (i : Nat) (hi : i < 8) (W : World) : Calls Tryz.prog 118 #[.int .i64 (i : Int)] W fun e w' => e = .returned (shpN i) ∧ Below W.heap.size W w' := by
  have hix := fun w => shp_at w i hi
  have d1 : decide ((i : Int) < 0) = false := decide_eq_false (by omega)
  have d2 : decide ((8 : Int) ≤ (i : Int)) = false := decide_eq_false (by omega)
  unfold shapes8 at hix
  unfold shpN at *
  generalize kwOf i = kw at *
  generalize vwOf i = vw at *
  generalize (i : Int) = ii at *
  go_enter Tryz.func118, Tryz.ntmps118
  go_wp2_with fail
  refine bodyPost_ret (v := .agg #[.int .i64 kw, .int .i64 vw]) (by simp [results, Tryz.results118, go_sem]) rfl ⟨rfl, (Below.refl _ _).alloc (Nat.le_refl _) _⟩
/-- a tree of a forest, in memory: its cells -/
def cell4 (sb : Nat) (r : Nat → Int) (j : Nat) : List Value := [.pointer (some ⟨sb, 0, none⟩), .int .i64 (kwOf j), .int .i64 (vwOf j), .int .i64 (r j)]
def none4 : List Value := [.pointer none, .int .i64 0, .int .i64 0, .int .i64 0]
/-- a forest in memory, of whose trees so many are loaded -/
def forC (sb : Nat) (r : Nat → Int) (k : Nat) : List Value := .pointer (some ⟨sb, 0, none⟩) :: ((List.range 8).flatMap fun j => if j < k then cell4 sb r j else none4) ++ [.bool false, .int .i64 0]
theorem forC_full (sb : Nat) (r : Nat → Int) (j i : Nat) (hj : j < 8) (hi : i < 4) : (forC sb r 8)[1 + j * 4 + i]? = (cell4 sb r j)[i]? := by
  have h1 : j = 0 ∨ j = 1 ∨ j = 2 ∨ j = 3 ∨ j = 4 ∨ j = 5 ∨ j = 6 ∨ j = 7 := by omega
  have h2 : i = 0 ∨ i = 1 ∨ i = 2 ∨ i = 3 := by omega
  rcases h1 with rfl | rfl | rfl | rfl | rfl | rfl | rfl | rfl <;> rcases h2 with rfl | rfl | rfl | rfl <;> rfl
theorem forC_none (sb : Nat) (r : Nat → Int) (j i : Nat) (hj : j < 8) (hi : i < 4) : (forC sb r j)[1 + j * 4 + i]? = none4[i]? := by
  have h1 : j = 0 ∨ j = 1 ∨ j = 2 ∨ j = 3 ∨ j = 4 ∨ j = 5 ∨ j = 6 ∨ j = 7 := by omega
  have h2 : i = 0 ∨ i = 1 ∨ i = 2 ∨ i = 3 := by omega
  rcases h1 with rfl | rfl | rfl | rfl | rfl | rfl | rfl | rfl <;> rcases h2 with rfl | rfl | rfl | rfl <;> rfl
theorem forC_set (sb : Nat) (r : Nat → Int) (j : Nat) (hj : j < 8) : ((((forC sb r j).set (1 + j * 4) (.pointer (some ⟨sb, 0, none⟩))).set (1 + j * 4 + 1) (.int .i64 (kwOf j))).set (1 + j * 4 + 2) (.int .i64 (vwOf j))).set (1 + j * 4 + 3) (.int .i64 (r j)) = forC sb r (j + 1) := by
  have h1 : j = 0 ∨ j = 1 ∨ j = 2 ∨ j = 3 ∨ j = 4 ∨ j = 5 ∨ j = 6 ∨ j = 7 := by omega
  rcases h1 with rfl | rfl | rfl | rfl | rfl | rfl | rfl | rfl <;> rfl
/-- a page that has roots -/
def rootsT (r : Nat → Int) (k : Nat) : List Int := (List.range k).flatMap fun j => Pl.be 2 (r j)
def rootsB (r : Nat → Int) : List Int := rootsT r 8 ++ List.replicate 496 0
theorem rootsT_succ (r : Nat → Int) (k : Nat) : rootsT r (k + 1) = rootsT r k ++ Pl.be 2 (r k) := by simp [rootsT, List.range_succ]
theorem rootsT_len (r : Nat → Int) (k : Nat) : (rootsT r k).length = 2 * k := by
  induction k with
  | zero => rfl
  | succ k ih => rw [rootsT_succ, List.length_append, ih, Pl.be_len]; omega
theorem rootsB_len (r : Nat → Int) : (rootsB r).length = 512 := by rw [rootsB, List.length_append, rootsT_len, List.length_replicate]
theorem rootsT_byt (r : Nat → Int) (k : Nat) : Byt (rootsT r k) := by
  induction k with
  | zero => intro x hx; cases hx
  | succ k ih => rw [rootsT_succ]; exact Byt.app ih (Pl.be_byt _ _)
theorem rootsB_byt (r : Nat → Int) : Byt (rootsB r) := Byt.app (rootsT_byt r 8) (zeros_byt _)
def FPageRes (r : Nat → Int) (W : World) (e : Ending) (W' : World) : Prop := ∃ A c, e = .returned (.slice A 512 c) ∧ W'.ownsRow W.heap.size 5 1 (.slice A 512 c) 512 (bv (rootsB r)) ∧ Below W.heap.size W W'
set_option maxHeartbeats 2000000 in
set_option maxRecDepth 20000 in
theorem fpage_any (fb sb : Nat) (r : Nat → Int) (W : World) (h : Whole W fb 156 (forC sb r 8)) (hr : ∀ j, j < 8 → 0 ≤ r j ∧ r j < 65536) : Calls Tryz.prog 120 #[.pointer (some ⟨fb, 0, none⟩)] W (FPageRes r W) := by
  have HW := hide h
  have HR := hide hr
  have hfb := h.lt
  clear h hr
  go_enter Tryz.func120, Tryz.ntmps120
  go_wp2_with fail
  refine (new_any W).mono ?_
  rintro e w1 ⟨rfl, rfl⟩
  have HP0 := hide (PkB.start (Below.refl W.heap.size W))
  generalize W.alloc (.cells #[.slice none 0 0, .int .i64 0] 213) = w1 at *
  go_upto_region 3 with fail
  go_loopw [8] (fun x wr => ∃ k : Nat, k ≤ 8 ∧ x = .int .i64 k ∧ ∃ v, PkB W wr W.heap.size v (rootsT r k)) (fun x _ => 8 - (Go.RowKit.intOf x).toNat)
  case atStart => exact ⟨0, by decide, rfl, _, HP0.out⟩
  case round =>
    obtain ⟨k, hk, rfl, v, hp⟩ := hrel
    have HP := hide hp
    clear hp HP0
    by_cases hlt : k < 8
    · obtain ⟨g0, g1⟩ := HR.out k hlt
      have c3 : wr.cell? ⟨fb, 1 + k * 4 + 3, none⟩ = some (.int .i64 (r k)) := by
        rw [HP.out.bel.cell (p := ⟨fb, 1 + k * 4 + 3, none⟩) hfb, HW.out.cell, forC_full sb r k 3 hlt (by decide)]
        rfl
      have hw : IntKind.u64.wrap (r k) = r k := by rw [IntKind.wrap_u64]; omega
      have HStep := hide (rootsT_succ r k)
      have HLen := hide (rootsT_len r k)
      have HG := hide (show 0 ≤ r k ∧ r k < 2 ^ (8 * 2) from ⟨g0, g1⟩)
      clear g0 g1
      generalize r k = rk at *
      go_wp2_with fail
      refine (HP.out.put 2 rk (by rw [HLen.out]; omega) (.inr (.inl rfl)) HG.out.1 HG.out.2).mono ?_
      rintro e w2 ⟨v2, rfl, hp⟩
      rw [← HStep.out] at hp
      have HP2 := hide hp
      clear hp
      go_wp2_with fail
      go_roundw
      case rel => exact ⟨k + 1, by omega, by go_num, v2, HP2.out⟩
      case measure => (try simp [Go.RowKit.intOf]); omega
    · obtain rfl : k = 8 := by omega
      have HLen := hide (rootsT_len r 8)
      go_wp2_with fail
      refine (repeat_any 496 wr (by decide)).mono ?_
      rintro e w2 ⟨rfl, hb⟩
      have HP2 := hide (HP.out.next hb)
      clear hb
      go_wp2_with fail
      refine (HP2.out.text (zerosT 496) (by rw [zerosT_size, HLen.out]; decide)).mono ?_
      rintro e w3 ⟨v3, rfl, hp⟩
      rw [zerosT_bs] at hp
      have HP3 := hide hp
      clear hp
      go_wp2_with fail
      refine (HP3.out.bytes (by rw [List.length_append, HLen.out, List.length_replicate]; decide)).mono ?_
      rintro e w4 ⟨A, c, rfl, hp, ho⟩
      have HP4 := hide hp
      have HO := hide ho
      have HLf := hide (rootsB_len r)
      clear hp ho
      go_wp2_with fail
      have ho2 : w4.ownsRow W.heap.size 5 1 (.slice A (rootsB r).length c) (rootsB r).length (bv (rootsB r)) := HO.out
      rw [HLf.out] at ho2
      refine bodyPost_ret (v := .slice A ((rootsT r 8).length + 496) c) (by simp [results, Tryz.results120, go_sem]) rfl ⟨A, c, ?_, ho2, HP4.out.bel⟩
      rw [HLen.out]
end Go.Proofs.YtnnfiicmplkakaaGreatDoor
namespace Go.Proofs.YtnnfiicmplkakaaGreatDoor
open Go.RowKit Go.Shelf

theorem wpList_load_mid_g {P : Program} {ops : Array Oper} {rest : List Oper} {op : Oper} {a : Act} {w : World} {Q : Exit → Act → World → Prop} (hg : Region.wanted op (yielded ops a.tmps) = true) (ty : TypeId) (x : Operand) (ho : op.op = .load ty x)
    (b o : Nat) (hx : a.eval x = .pointer (some ⟨b, o, none⟩)) (cs : List Value) (d : TypeDesc) (hc : w.rangeAt b o cs)
    (hu : P.underlying ty = some d) (hd : d.isRow = true) (hi : (P.info? ty).map (·.size) = some cs.length)
    (h : wpList P ops Q rest (a.put op.dst (.agg cs.toArray)) w) : wpList P ops Q (op :: rest) a w := by
  refine wpList_step fun K' hK' => ?_
  rw [if_pos hg]
  exact wp_load_mid ty x ho b o hx cs d hc hu hd hi (hK' _ _ h)
/-- the map's page is what a map says -/
structure MapPg (s : PgS) (d : PgD) (ws : List Nat) : Prop where
  at_ : pageAt d 0 = nI (bytesTo ws s.P)
  ok : MapOk s.P ws
  cl : Clean s.P ws
  zero : bitAt ws 0 = true
/-- bounds that stay -/
structure PgOk (s : PgS) (d : PgD) : Prop where
  P0 : 1 ≤ s.P
  P1 : s.P ≤ 1024
  q : d.q ≤ 100000
  m : d.m ≤ 80000
  sec : d.h.sec ≤ 60000
  n : 2 + d.h.sec + s.P ≤ s.n
  c : ∀ j, (d.c j).length = 512 ∧ Byt (d.c j)
def UsedRes (s : PgS) (F : Nat → Prop) (d : PgD) (ws : List Nat) (W : World) (e : Ending) (W' : World) : Prop :=
  e = .returned (.tuple #[mapV s.P ws, .int .i64 0]) ∧ PSv W' s F d ∧ Kp (TwoF s.bs s.bk) W W'
theorem PSv.st {W : World} {s : PgS} {F : Nat → Prop} {d : PgD} (h : PSv W s F d) : Whole W s.bs 160 [.pointer (some ⟨s.bl, 0, none⟩), .pointer (some ⟨s.bd, 0, none⟩), .int .i64 (s.P : Int), .string s.note, .map (some s.bk), .map (some s.bt), .map (some s.bc), .bool false] := by
  obtain ⟨_, _, _, h, _⟩ := h
  exact h.st
theorem PSv.lts {W : World} {s : PgS} {F : Nat → Prop} {d : PgD} (h : PSv W s F d) : s.bs < W.heap.size ∧ s.bk < W.heap.size ∧ s.bt < W.heap.size ∧ s.bc < W.heap.size ∧ s.bl < W.heap.size := by
  obtain ⟨_, _, _, h, _⟩ := h
  exact ⟨h.st.lt, h.kept.lt, h.dirty.lt, h.change.lt, h.ld.lt⟩
theorem PSv.kpx {W W' : World} {s : PgS} {F : Nat → Prop} {d : PgD} {G : Nat → Prop} (h : PSv W s F d) (hk : Kp G W W') (hG : ∀ k, G k → k ≠ s.bs ∧ k ≠ s.bk ∧ k ≠ s.bt ∧ k ≠ s.bc ∧ k ≠ s.bl ∧ ¬ F k) : PSv W' s F d := by
  obtain ⟨Dk, Dt, Dc, h1, h2⟩ := h
  have hn : ∀ b, (b = s.bs ∨ b = s.bk ∨ b = s.bt ∨ b = s.bc ∨ b = s.bl) → ¬ G b := fun b hb hg => by
    obtain ⟨g1, g2, g3, g4, g5, _⟩ := hG b hg
    rcases hb with rfl | rfl | rfl | rfl | rfl
    · exact g1 rfl
    · exact g2 rfl
    · exact g3 rfl
    · exact g4 rfl
    · exact g5 rfl
  exact ⟨Dk, Dt, Dc, ⟨h1.st.kp hk (hn _ (.inl rfl)), ⟨h1.ld.lg.kp hk (hn _ (.inr (.inr (.inr (.inr rfl))))), h1.ld.ds.kp hk (fun k hf hg => (hG k hg).2.2.2.2.2 hf), h1.ld.ne⟩, owns_kp h1.kept hk (hn _ (.inr (.inl rfl))), owns_kp h1.dirty hk (hn _ (.inr (.inr (.inl rfl)))), owns_kp h1.change hk (hn _ (.inr (.inr (.inr (.inl rfl))))), h1.nf, h1.nl, h1.ns, h1.nm⟩, h2⟩
theorem PSv.nlt {W : World} {s : PgS} {F : Nat → Prop} {d : PgD} (h : PSv W s F d) : ∀ k, F k → k < W.heap.size := by
  obtain ⟨_, _, _, h1, _⟩ := h
  exact fun k hk => h1.ld.ds.lt hk
set_option maxHeartbeats 2000000 in
set_option maxRecDepth 20000 in
theorem used_any (s : PgS) (F : Nat → Prop) (d : PgD) (ws : List Nat) (W : World) (h : PSv W s F d) (ho : PgOk s d) (hx : MapPg s d ws) :
    Calls Tryz.prog 106 #[.pointer (some ⟨s.bs, 0, none⟩)] W (UsedRes s F (d.read 0) ws W) := by
  have HO := hide ho
  have HX := hide hx
  have hP1 := ho.P1
  have hP0 := ho.P0
  have HPg := fun W' (h' : PSv W' s F d) => hide (show Calls Tryz.prog 117 #[.pointer (some ⟨s.bs, 0, none⟩), .int .i64 0] W' _ from page_any s F d 0 W' h' (by have := ho.P0; omega) ho.P1 ho.q (by have := ho.m; omega) ho.sec ho.n ho.c)
  rw [hx.at_] at HPg
  have HTk := fun (A : Option Addr) (w : World) (hm : Mem w w.heap.size A (bv (nI (bytesTo ws s.P)))) => hide (btake_any s.P (bytesTo ws s.P) A 512 w ho.P0 ho.P1 (bytesTo_len ws s.P) (bytesTo_lt ws s.P) (fun j hj => by
    rw [bytesTo_bit ws s.P (by omega) j] at hj
    rw [Bool.and_eq_true] at hj
    exact of_decide_eq_true hj.1) hm)
  rw [take_bytes hx.ok hx.cl] at HTk
  have HI := hide (show (Tryz.prog.info? 194).map (·.size) = some (mapC s.P ws).toArray.size from mapInfo hx.ok.len)
  have HIn := hide (mapInfo (n := s.P) hx.ok.len)
  have HOne := hide (all_oneCell_toArray (mapC_one s.P ws))
  have hz : (mapC 0 zeroWs).toArray.size = (mapC s.P ws).toArray.size := by rw [List.size_toArray, List.size_toArray, mapC_len rfl, mapC_len hx.ok.len]
  have HZ := hide hz
  have HHas := fun w => hide (show Calls Tryz.prog 154 #[mapV s.P ws, .int .i64 0] w _ from bhas_any s.P ws 0 w hx.ok (by omega))
  rw [hx.zero] at HHas
  have HPS := hide h
  have hlt := h.lts
  clear h ho hx hz
  generalize hR : UsedRes _ _ _ _ _ = R
  have HR := hide hR
  clear hR
  unfold BTakeRes mapV at *
  go_enter Tryz.func106, Tryz.ntmps106
  go_upto_region 1 with fail
  have hb0 : Below W.heap.size W (W.alloc (.cells (mapC 0 zeroWs).toArray 194)) := (Below.refl _ _).alloc (Nat.le_refl _) _
  have hx0 : Whole (W.alloc (.cells (mapC 0 zeroWs).toArray 194)) _ _ _ := Whole.new W (mapC 0 zeroWs) 194
  change Code.wp _ _ _ _ (W.alloc (.cells (mapC 0 zeroWs).toArray 194))
  have HB0 := hide hb0
  have HX0 := hide hx0
  clear hb0 hx0
  generalize W.alloc (.cells (mapC 0 zeroWs).toArray 194) = w0 at *
  go_wp2_with fail
  have HPg0 := HPg w0 (HPS.out.below HB0.out)
  refine HPg0.out.mono ?_
  rintro e w1 ⟨A, rfl, hm, hps, hk⟩
  have HX1 := hide (HX0.out.kp hk (fun e => by unfold TwoF at e; omega))
  have HM1 := hide hm
  have HP1 := hide hps
  have HK1 := hide ((Kp.of_below (F := TwoF s.bs s.bk) HB0.out).same hk)
  have c2 := hps.st.cell 2
  simp only [List.getElem?_cons_zero, List.getElem?_cons_succ] at c2
  clear hm hps hk HX0 HB0 HPg
  go_wp2_with fail
  refine (HTk A w1 HM1.out).out.mono ?_
  rintro e w2 ⟨rfl, hb⟩
  have HX2 := hide (HX1.out.below hb HX1.out.lt)
  have HP2 := hide (HP1.out.below hb)
  have HK2 := hide (HK1.out.same (Kp.of_below hb))
  have hl2 := HX2.out.lt
  clear hb c2
  have hM3 : Whole (w2.alloc (.cells (mapC s.P ws).toArray 194)) _ _ _ := Whole.new w2 (mapC s.P ws) 194
  have hb3 : Below w2.heap.size w2 (w2.alloc (.cells (mapC s.P ws).toArray 194)) := (Below.refl _ _).alloc (Nat.le_refl _) _
  have HM3 := hide hM3
  have HB3 := hide hb3
  clear hM3 hb3
  go_upto_region 5 with (refine wpList_store_new w2 rfl 194 _ _ rfl _ (mapC s.P ws).toArray rfl rfl HI.out HZ.out HOne.out ?_)
  have hne : W.heap.size ≠ w2.heap.size := by omega
  generalize w2.alloc (.cells (mapC s.P ws).toArray 194) = w3 at *
  have HX3 := hide (HX2.out.below HB3.out HX2.out.lt)
  have HP3 := hide (HP2.out.below HB3.out)
  have HK3 := hide (HK2.out.same (Kp.of_below HB3.out))
  generalize w2.heap.size = b6 at *
  have HR3 := hide HM3.out.range
  go_wp2_with (refine wpList_load_mid_g rfl 194 _ rfl b6 0 rfl (mapC s.P ws) _ HR3.out Tryz.underlying194 rfl HIn.out ?_)
  refine (HHas w3).out.mono ?_
  rintro e w4 ⟨rfl, hb⟩
  have HB34 := hide hb
  have HX4 := hide (HX3.out.below hb HX3.out.lt)
  have HM4 := hide (HM3.out.below hb HM3.out.lt)
  have HP4 := hide (HP3.out.below hb)
  have HK4 := hide (HK3.out.same (Kp.of_below hb))
  have hge : W.heap.size ≤ W.heap.size := Nat.le_refl _
  clear hb HX3 HM3 HP3 HK3 HR3 HB34
  have HR4 := hide HM4.out.range
  have hthr := HX4.out.thr
  have e17 : (mapC 0 zeroWs).length = (mapC s.P ws).toArray.size := by have := HZ.out; rw [List.size_toArray] at this; exact this
  rw [e17] at hthr
  have HThr := hide hthr
  have hall : Whole (w4.setCells W.heap.size 0 (mapC s.P ws)) W.heap.size 194 (mapC s.P ws) := HX4.out.all (by rw [e17]; rw [List.size_toArray])
  have HAll := hide hall
  have hkf : Kp (OnlyF W.heap.size) w4 (w4.setCells W.heap.size 0 (mapC s.P ws)) := Kp.setCells _ _ _ _
  have HKf := hide (HK4.out.trans hkf (fun i hi => .inr (by cases hi; exact Nat.le_refl _)))
  have HPf := hide (show PSv (w4.setCells W.heap.size 0 (mapC s.P ws)) s F (d.read 0) from HP4.out.kpx hkf (fun k hk => by cases hk; have h1 := HPS.out.lts; have := HPS.out.nlt; exact ⟨by omega, by omega, by omega, by omega, by omega, fun hf => by have := this _ hf; omega⟩))
  clear hthr e17 hall hkf
  go_wp2_with (first | (refine wpList_load_mid rfl 194 _ rfl b6 0 rfl (mapC s.P ws) _ HR4.out Tryz.underlying194 rfl HIn.out ?_) | (refine wpList_store_mid rfl 194 _ _ rfl W.heap.size 0 (mapC s.P ws).toArray rfl rfl HThr.out HI.out HOne.out ?_))
  change bodyPost _ _ _ _ _ (w4.setCells W.heap.size 0 (mapC s.P ws))
  refine bodyPost_ret (results_cell_row2 rfl _ _ _ W.heap.size (mapC s.P ws) _ rfl HAll.out.range Tryz.underlying194 rfl HIn.out) rfl ?_
  rw [← HR.out]
  exact ⟨rfl, HPf.out, HKf.out⟩
/-- behind a change of one page -/
def PgD.put (d : PgD) (i : Nat) (xs : List Int) : PgD := { d with ch := setP d.ch i xs, q := d.q + 1 }
def SetRes (s : PgS) (F : Nat → Prop) (d : PgD) (W : World) (e : Ending) (W' : World) : Prop := e = .returned (.tuple #[]) ∧ PSv W' s F d ∧ Kp (OnlyF s.bc) W W'
/-- a store into the change -/
theorem PSv.change {W : World} {s : PgS} {F : Nat → Prop} {d : PgD} (h : PSv W s F d) (i : Nat) (xs : List Int) (hi : i < 1024) (hq : d.q ≤ 100000) (hl : xs.length = 512) (hb : Byt xs) :
    ∃ w', (Instr.mapUpdate 157 (.map (some s.bc)) (.int .i64 (i : Int)) (pgV xs)).run Tryz.prog W = .ok () w' ∧ PSv w' s F (d.put i xs) ∧ Kp (OnlyF s.bc) W w' := by
  obtain ⟨Dk, Dt, Dc, h1, v1, v2, v3⟩ := h
  obtain ⟨w', hrun, ho, ht⟩ := h1.change.store (Maps.int_keyed Tryz.underlying3) Tryz.underlying157 (t := 157) (by unfold maxLen; omega) (Maps.keyOf_int_mk Tryz.underlying3 (show (Lit.int .i64 (i : Int)).wf = true from WalkArith.wf_i64 (by omega))) (pgR_val xs hl)
  have hk : Kp (OnlyF s.bc) W w' := (Kp.refl _ _).grown ht.grown (fun k hk => .inl (by cases hk; rfl))
  refine ⟨w', hrun, ⟨Dk, Dt, _, h1.turn hk (fun k hk => .inr (.inr hk)) ((owns_kp h1.kept hk (fun e => h1.nm.2.1 e)).mono (Nat.le_succ _)) ((owns_kp h1.dirty hk (fun e => h1.nm.2.2 e)).mono (Nat.le_succ _)) ho, v1, v2, v3.put h1.change.isMap i xs hi hl hb⟩, hk⟩
set_option maxHeartbeats 2000000 in
set_option maxRecDepth 20000 in
theorem sets_any (s : PgS) (F : Nat → Prop) (d : PgD) (ws : List Nat) (i : Nat) (W : World) (h : PSv W s F d) (hq : d.q ≤ 100000) (hok : MapOk s.P ws) (hi : i < s.P) :
    Calls Tryz.prog 108 #[.pointer (some ⟨s.bs, 0, none⟩), mapV s.P ws, .int .i64 (i : Int), .bool true] W (SetRes s F (d.put 0 (nI (bytesTo (setB ws i) s.P))) W) := by
  have HPS := hide h
  have hlt := h.lts
  have HSet := fun w => hide (bset_any s.P ws i w hok hi)
  have HByt := fun w => hide (bbytes_any s.P (setB ws i) w (hok.setB i))
  have HIn := hide (mapInfo (n := s.P) hok.len)
  have HLx := hide (show (nI (bytesTo (setB ws i) s.P)).length = 512 by rw [nI_len, bytesTo_len])
  have HBx := hide (nI_byt (bytesTo_lt (setB ws i) s.P))
  have HI := hide (show (Tryz.prog.info? 209).map (·.size) = some (bv (nI (bytesTo (setB ws i) s.P))).length from by rw [bv_len, HLx.out]; exact pageInfo)
  generalize nI (bytesTo (setB ws i) s.P) = xs at *
  have hx1 : Whole (W.alloc (.cells (mapC s.P ws).toArray 194)) _ _ _ := Whole.new W (mapC s.P ws) 194
  have hb1 : Below W.heap.size W (W.alloc (.cells (mapC s.P ws).toArray 194)) := (Below.refl _ _).alloc (Nat.le_refl _) _
  have HX1 := hide hx1
  have HB1 := hide hb1
  clear h hok hx1 hb1
  generalize hR : SetRes _ _ _ _ = R
  have HR := hide hR
  clear hR
  unfold mapV at *
  go_enter Tryz.func108, Tryz.ntmps108
  go_upto_region 1 with fail
  generalize W.alloc (.cells (mapC s.P ws).toArray 194) = w1 at *
  have HP1 := hide (HPS.out.below HB1.out)
  have HLt1 := hide HP1.out.lts
  refine wp_region_held_drew (S := (fun w' => Kp (OnlyF s.bc) w1 w')) (by kernel_rfl) ((Kp.refl _ _).drew) (fun hHeld => ?_)
  have HPd := hide (HP1.out.below (Below.refl w1.heap.size w1).drew)
  have hnb2 : ¬ OnlyF s.bc W.heap.size := fun e => by have : W.heap.size = s.bc := e; omega
  have hnb1 : ¬ OnlyF s.bc s.bs := fun e => by obtain ⟨_, _, _, h1, _⟩ := HPS.out; exact h1.ns.2.2 e.symm
  generalize w1.drew = wd at *
  refine wpAnyH_take (i := 0) (v := ?vaq1) rfl (by kernel_rfl) (by kernel_rfl) (by kernel_rfl) (fun _ _ _ h => h) (Or.inl ⟨by rfl, ?haq1⟩) (by assumption) ?raq1
  case haq1 => (intro wq hSw; go_simp; (try with_reducible rfl))
  try simp only [Act.put, List.getElem_toArray, List.getElem_cons_zero, List.setIfInBounds_toArray, List.set_cons_zero, List.set_cons_succ]
  refine wpAnyH_take (i := 1) (v := ?vaq2) rfl (by kernel_rfl) (by kernel_rfl) (by kernel_rfl) (fun _ _ _ h => h) (Or.inl ⟨by rfl, ?haq2⟩) (by assumption) ?raq2
  case haq2 => (intro wq hSw; go_simp; (try with_reducible rfl))
  try simp only [Act.put, List.getElem_toArray, List.getElem_cons_zero, List.getElem_cons_succ, List.setIfInBounds_toArray, List.set_cons_zero, List.set_cons_succ]
  refine wpAnyH_take (i := 2) (v := ?vaq3) rfl (by kernel_rfl) (by kernel_rfl) (by kernel_rfl) (fun _ _ _ h => h) (Or.inl ⟨by rfl, ?haq3⟩) (by assumption) ?raq3
  case haq3 => (intro wq hSw; go_simp; (try with_reducible rfl))
  try simp only [Act.put, List.getElem_toArray, List.getElem_cons_zero, List.getElem_cons_succ, List.setIfInBounds_toArray, List.set_cons_zero, List.set_cons_succ]
  refine wpAnyH_take (i := 3) (v := ?vaq4) rfl (by kernel_rfl) (by kernel_rfl) (by kernel_rfl) (fun _ _ _ h => h) (Or.inl ⟨by rfl, ?haq4⟩) (by assumption) ?raq4
  case haq4 => (intro wq hSw; have hX := HP1.out.st.kp hSw (fun e => hnb1 e); have e6 := hX.cell 6; simp only [List.getElem?_cons_zero, List.getElem?_cons_succ] at e6; go_simp; (try with_reducible rfl))
  try simp only [Act.put, List.getElem_toArray, List.getElem_cons_zero, List.getElem_cons_succ, List.setIfInBounds_toArray, List.set_cons_zero, List.set_cons_succ]
  refine wpAnyH_take (i := 4) (v := .agg (mapC s.P ws).toArray) rfl (by kernel_rfl) (by kernel_rfl) (by kernel_rfl) (fun _ _ _ h => h) (Or.inl ⟨by rfl, ?haq5⟩) (by assumption) ?raq5
  case haq5 => (exact fun wq hSw => exec_load_mid wq 194 _ rfl W.heap.size 0 rfl (mapC s.P ws) _ (HX1.out.kp hSw hnb2).range Tryz.underlying194 rfl HIn.out)
  try simp only [Act.put, List.getElem_toArray, List.getElem_cons_zero, List.getElem_cons_succ, List.setIfInBounds_toArray, List.set_cons_zero, List.set_cons_succ]
  refine wpAnyH_take (i := 5) (v := ?vaq6) rfl (by kernel_rfl) (by kernel_rfl) (by kernel_rfl) (fun _ _ _ h => h) (Or.inl ⟨by rfl, ?haq6⟩) (by assumption) ?raq6
  case haq6 => (intro wq hSw; go_simp; (try with_reducible rfl))
  try simp only [Act.put, List.getElem_toArray, List.getElem_cons_zero, List.getElem_cons_succ, List.setIfInBounds_toArray, List.set_cons_zero, List.set_cons_succ]
  refine wpAnyH_take (i := 6) (v := ?vaq7) rfl (by kernel_rfl) (by kernel_rfl) (by kernel_rfl) (fun _ _ _ h => h) (Or.inl ⟨by rfl, ?haq7⟩) (by assumption) ?raq7
  case haq7 => (intro wq hSw; go_simp; (try with_reducible rfl))
  try simp only [Act.put, List.getElem_toArray, List.getElem_cons_zero, List.getElem_cons_succ, List.setIfInBounds_toArray, List.set_cons_zero, List.set_cons_succ]
  refine wpAnyH_ready (rs := [7]) (by kernel_rfl) (by simp) ?_
  refine AllReadyH.cons (o := _) rfl (fun K hK => ?_) ?_
  · skip
    go_simp
    refine (HSet wd).out.mono ?_
    rintro e w2 ⟨rfl, hb⟩
    have HP2 := hide (HPd.out.below hb)
    have HK2 := hide (hHeld.same (Kp.of_below hb))
    clear hb
    refine hK.out _ _ (HK2.out) (fun hHeld => ?_)
    clear hK K 
    try simp only [Act.put, List.getElem_toArray, List.getElem_cons_zero, List.getElem_cons_succ, List.setIfInBounds_toArray, List.set_cons_zero, List.set_cons_succ]
    refine wpAnyH_ready (rs := [8]) (by kernel_rfl) (by simp) ?_
    refine AllReadyH.cons (o := _) rfl (fun K hK => ?_) ?_
    · skip
      go_simp
      refine (HByt w2).out.mono ?_
      rintro e w3 ⟨b3, rfl, hw3, hge3, hb⟩
      have HP3 := hide (HP2.out.below hb)
      have HK3 := hide (HK2.out.same (Kp.of_below hb))
      have HW3 := hide hw3
      have hat := page_at b3 0
      clear hb hw3 hge3
      refine hK.out _ _ (HK3.out) (fun hHeld => ?_)
      clear hK K 
      try simp only [Act.put, List.getElem_toArray, List.getElem_cons_zero, List.getElem_cons_succ, List.setIfInBounds_toArray, List.set_cons_zero, List.set_cons_succ]
      refine wpAnyH_take (i := 9) (v := ?vaq8) rfl (by kernel_rfl) (by kernel_rfl) (by kernel_rfl) (fun _ _ _ h => h) (Or.inl ⟨by rfl, ?haq8⟩) (by assumption) ?raq8
      case haq8 => (intro wq hSw; go_simp; (try with_reducible rfl))
      try simp only [Act.put, List.getElem_toArray, List.getElem_cons_zero, List.getElem_cons_succ, List.setIfInBounds_toArray, List.set_cons_zero, List.set_cons_succ]
      refine wpAnyH_ready (rs := [10]) (by kernel_rfl) (by simp) ?_
      refine AllReadyH.cons (o := _) rfl (fun K hK => ?_) ?_
      · skip
        refine wp_load_mid 209 _ rfl b3 0 rfl (bv xs) _ HW3.out.range Tryz.underlying209 rfl HI.out ?_
        refine hK.out _ _ (HK3.out) (fun hHeld => ?_)
        clear hK K 
        try simp only [Act.put, List.getElem_toArray, List.getElem_cons_zero, List.getElem_cons_succ, List.setIfInBounds_toArray, List.set_cons_zero, List.set_cons_succ]
        refine wpAnyH_ready (rs := [11]) (by kernel_rfl) (by simp) ?_
        refine AllReadyH.cons (o := _) rfl (fun K hK => ?_) ?_
        · skip
          obtain ⟨w4, hrun, hps, hk⟩ := HP3.out.change 0 xs (by decide) hq HLx.out HBx.out
          unfold pgV at hrun
          change (Instr.mapUpdate 157 (.map (some s.bc)) (.int .i64 0) _).run _ _ = _ at hrun
          have HPf := hide hps
          have HKf := hide (HK3.out.same hk)
          clear hps hk hat
          go_simp
          refine hK.out _ _ (HKf.out) (fun hHeld => ?_)
          clear hK K hrun
          try simp only [Act.put, List.getElem_toArray, List.getElem_cons_zero, List.getElem_cons_succ, List.setIfInBounds_toArray, List.set_cons_zero, List.set_cons_succ]
          refine wpAnyH_done (by kernel_rfl) ?_ _
          go_end0
          rw [← HR.out]
          exact ⟨rfl, HPf.out, (Kp.of_below HB1.out).same HKf.out⟩
        exact AllReadyH.nil
      exact AllReadyH.nil
    exact AllReadyH.nil
  exact AllReadyH.nil
end Go.Proofs.YtnnfiicmplkakaaGreatDoor
namespace Go.Proofs.YtnnfiicmplkakaaGreatDoor
open Go.RowKit Go.Shelf

theorem pages_any {W : World} {s : PgS} {F : Nat → Prop} {d : PgD} (h : PSv W s F d) : Calls Tryz.prog 119 #[.pointer (some ⟨s.bs, 0, none⟩)] W fun e w' => e = .returned (.int .i64 (s.P : Int)) ∧ W = w' := by
  have c2 : W.cell? ⟨s.bs, 2, none⟩ = some (.int .i64 (s.P : Int)) := by
    obtain ⟨_, _, _, hp, _⟩ := h
    exact hp.st.cell 2
  clear h
  obtain ⟨sb, _, _, _, P, _, _, _, _⟩ := s
  simp only at c2 ⊢
  go_enter Tryz.func119, Tryz.ntmps119
  go_wp2
  go_ret
  exact ⟨rfl, rfl⟩
theorem forC_at (sb : Nat) (r : Nat → Int) (j i : Nat) (hj : j < 8) (hi : i < 4) : (forC sb r (j + 1))[1 + j * 4 + i]? = (cell4 sb r j)[i]? := by
  have h1 : j = 0 ∨ j = 1 ∨ j = 2 ∨ j = 3 ∨ j = 4 ∨ j = 5 ∨ j = 6 ∨ j = 7 := by omega
  have h2 : i = 0 ∨ i = 1 ∨ i = 2 ∨ i = 3 := by omega
  rcases h1 with rfl | rfl | rfl | rfl | rfl | rfl | rfl | rfl <;> rcases h2 with rfl | rfl | rfl | rfl <;> rfl
def TwoB (a b : Nat) : Nat → Prop := fun k => k = a ∨ k = b
/-- the roots' bytes from a tree on -/
def rootsR (r : Nat → Int) (k : Nat) : List Int := (rootsB r).drop (2 * k)
theorem rootsR_step (r : Nat → Int) (k : Nat) (hk : k < 8) : rootsR r k = Pl.be 2 (r k) ++ rootsR r (k + 1) := by
  have h : k = 0 ∨ k = 1 ∨ k = 2 ∨ k = 3 ∨ k = 4 ∨ k = 5 ∨ k = 6 ∨ k = 7 := by omega
  unfold rootsR rootsB rootsT
  rcases h with rfl | rfl | rfl | rfl | rfl | rfl | rfl | rfl <;> rfl
theorem rootsR_len (r : Nat → Int) (k : Nat) : (rootsR r k).length = 512 - 2 * k := by rw [rootsR, List.length_drop, rootsB_len]
theorem rootsR_byt (r : Nat → Int) (k : Nat) : Byt (rootsR r k) := fun x hx => rootsB_byt r x (List.mem_of_mem_drop hx)
/-- a page store's blocks, its disk's among them -/
def Far (s : PgS) (F : Nat → Prop) (b : Nat) : Prop := b ≠ s.bs ∧ b ≠ s.bk ∧ b ≠ s.bt ∧ b ≠ s.bc ∧ b ≠ s.bl ∧ ¬ F b
/-- while roots are loaded -/
structure LdW (w0 w : World) (s : PgS) (F : Nat → Prop) (d : PgD) (fb bo g : Nat) (r : Nat → Int) (k : Nat) : Prop where
  ps : PSv w s F d
  fo : Whole w fb 156 (forC s.bs r k)
  op : ∃ A c, Opn w bo g A c (rootsR r k) 0
  kp : Kp (TwoB fb bo) w0 w
def LoadRes (s : PgS) (F : Nat → Prop) (d : PgD) (fb : Nat) (r : Nat → Int) (W : World) (e : Ending) (W' : World) : Prop :=
  e = .returned (.int .i64 0) ∧ PSv W' s F d ∧ Whole W' fb 156 (forC s.bs r 8) ∧ Kp (fun b => b = fb ∨ TwoF s.bs s.bk b) W W'
set_option maxHeartbeats 4000000 in
set_option maxRecDepth 20000 in
theorem fload_any (s : PgS) (F : Nat → Prop) (d : PgD) (fb : Nat) (r : Nat → Int) (W : World) (h : PSv W s F d) (hw : Whole W fb 156 (forC s.bs r 0)) (hfar : Far s F fb)
    (hP0 : 1 < s.P) (hP : s.P ≤ 1024) (hq : d.q ≤ 100000) (hm : d.m ≤ 100000) (hs : d.h.sec ≤ 60000) (hn : 2 + d.h.sec + s.P ≤ s.n) (hc : ∀ j, (d.c j).length = 512 ∧ Byt (d.c j)) (hpg : pageAt d 1 = rootsB r) (hr : ∀ j, j < 8 → 0 ≤ r j ∧ r j < s.P ∧ r j ≠ 1) :
    Calls Tryz.prog 71 #[.pointer (some ⟨fb, 0, none⟩)] W (LoadRes s F (d.read 1) fb r W) := by
  have HPg := hide (page_any s F d 1 W h hP0 hP hq hm hs hn hc)
  have HPa := hide hpg
  have HW := hide hw
  have HPS := hide h
  have HR := hide hr
  have HFar := hide hfar
  have hfb := hw.lt
  have c0 : W.cell? ⟨fb, 0, none⟩ = some (.pointer (some ⟨s.bs, 0, none⟩)) := hw.cell 0
  clear h hw hfar hq hm hs hn hc hpg hr
  obtain ⟨bs, bl, bd, n, P, note, bk, bt, bc⟩ := s
  simp only at *
  generalize d.read 1 = d1 at *
  go_enter Tryz.func71, Tryz.ntmps71
  go_wp2_with fail
  refine HPg.out.mono ?_
  rintro e w1 ⟨A1, rfl, hm1, hp1, hk1⟩
  rw [HPa.out] at hm1
  have HM1 := hide hm1
  have HP1 := hide hp1
  have HK1 := hide hk1
  have HW1 := hide (HW.out.kp hk1 (fun e => e.elim HFar.out.1 HFar.out.2.1))
  have hs1 := hk1.size
  clear hm1 hp1 hk1 c0
  have HOf := hide (of_any A1 (rootsB r) 512 w1 HM1.out (by rw [rootsB_len]; decide))
  rw [rootsB_len] at HOf
  go_wp2_with fail
  refine HOf.out.mono ?_
  rintro e w2 ⟨bo, g, A2, c2, rfl, hop, hb2, hbo, hg2⟩
  obtain ⟨_, _, hgl, _⟩ := hop.mem (by rw [rootsB_len]; decide)
  have hbol := hop.box.lt
  have HL2 := hide (show LdW w2 w2 ⟨bs, bl, bd, n, P, note, bk, bt, bc⟩ F d1 fb bo g r 0 from ⟨HP1.out.below hb2, HW1.out.below hb2 HW1.out.lt, ⟨A2, c2, by show Opn w2 bo g A2 c2 ((rootsB r).drop 0) 0; rw [List.drop_zero]; exact hop⟩, Kp.refl _ _⟩)
  have HB2 := hide hb2
  have hs2 := hb2.size
  have hlts := HP1.out.lts
  have hF1 : ∀ j, F j → j < w1.heap.size := fun j hj => by
    obtain ⟨_, _, _, hp, _⟩ := HP1.out
    exact hp.ld.ds.lt hj
  have HFo := hide (show Far ⟨bs, bl, bd, n, P, note, bk, bt, bc⟩ F bo from ⟨by have := hlts.1; show bo ≠ bs; have h : bs < w1.heap.size := this; omega, by have h : bk < w1.heap.size := hlts.2.1; show bo ≠ bk; omega, by have h : bt < w1.heap.size := hlts.2.2.1; show bo ≠ bt; omega, by have h : bc < w1.heap.size := hlts.2.2.2.1; show bo ≠ bc; omega, by have h : bl < w1.heap.size := hlts.2.2.2.2; show bo ≠ bl; omega, fun hf => by have := hF1 _ hf; omega⟩)
  have hne : bo ≠ fb := by omega
  have hgn : g ≠ fb := by omega
  clear hop hb2 HOf hlts
  go_upto_region 6 with fail
  go_loopw [21] (fun x wr => ∃ k : Nat, k ≤ 8 ∧ x = .int .i64 k ∧ LdW w2 wr ⟨bs, bl, bd, n, P, note, bk, bt, bc⟩ F d1 fb bo g r k) (fun x _ => 8 - (Go.RowKit.intOf x).toNat)
  case atStart => exact ⟨0, by decide, rfl, HL2.out⟩
  case round =>
    obtain ⟨k, hk, rfl, hl⟩ := hrel
    have HL := hide hl
    clear hl HL2
    by_cases hlt : k < 8
    · obtain ⟨r0, r1, r2⟩ := HR.out k hlt
      obtain ⟨A, c, hop⟩ := HL.out.op
      rw [rootsR_step r k hlt] at hop
      have HOp := hide hop
      have HLn := hide (rootsR_len r (k + 1))
      have HByt := hide (Byt.app (Pl.be_byt 2 (r k)) (rootsR_byt r (k + 1)))
      have hf8 := HL.out.fo.lt
      clear hop
      have HUn := hide (show Pl.un (Pl.be 2 (r k)) = r k from un_be 2 _ r0 (Int.lt_of_lt_of_le r1 (by omega)))
      have hwr : IntKind.i64.wrap (r k) = r k := IntWalk.i64_in _ (by omega)
      go_upto_region 8 with fail
      refine wp_region_held_drew (S := (fun w' => ∃ cs, Whole w' fb 156 (.pointer (some ⟨bs, 0, none⟩) :: cs) ∧ Kp (TwoB fb bo) wr w')) (by kernel_rfl) (⟨_, HL.out.fo, (Kp.refl (TwoB fb bo) wr).drew⟩) (fun hHeld => ?_)
      have HF0 := hide (show Whole wr.drew fb 156 (forC bs r k) from HL.out.fo)
      have HO0 := hide (HOp.out.kp (F := NoF) (Kp.of_below (Below.refl wr.heap.size wr).drew) (fun h => h) (fun h => h))
      have HKp0 := hide (show Kp (TwoB fb bo) wr wr.drew from (Kp.refl (TwoB fb bo) wr).drew)
      generalize wr.drew = wd at *
      refine wpAnyH_take (i := 0) (v := ?vaq1) rfl (by kernel_rfl) (by kernel_rfl) (by kernel_rfl) (fun _ _ _ h => h) (Or.inl ⟨by rfl, ?haq1⟩) (by assumption) ?raq1
      case haq1 => (intro wq hSw; go_simp; (try with_reducible rfl))
      try simp only [Act.put, List.getElem_toArray, List.getElem_cons_zero, List.setIfInBounds_toArray, List.set_cons_zero, List.set_cons_succ]
      refine wpAnyH_take (i := 1) (v := ?vaq2) rfl (by kernel_rfl) (by kernel_rfl) (by kernel_rfl) (fun _ _ _ h => h) (Or.inl ⟨by rfl, ?haq2⟩) (by assumption) ?raq2
      case haq2 => (intro wq hSw; go_simp; (try with_reducible rfl))
      try simp only [Act.put, List.getElem_toArray, List.getElem_cons_zero, List.getElem_cons_succ, List.setIfInBounds_toArray, List.set_cons_zero, List.set_cons_succ]
      refine wpAnyH_take (i := 2) (v := ?vaq3) rfl (by kernel_rfl) (by kernel_rfl) (by kernel_rfl) (fun _ _ _ h => h) (Or.inl ⟨by rfl, ?haq3⟩) (by assumption) ?raq3
      case haq3 => (intro wq hSw; go_simp; (try with_reducible rfl))
      try simp only [Act.put, List.getElem_toArray, List.getElem_cons_zero, List.getElem_cons_succ, List.setIfInBounds_toArray, List.set_cons_zero, List.set_cons_succ]
      refine wpAnyH_take (i := 3) (v := ?vaq4) rfl (by kernel_rfl) (by kernel_rfl) (by kernel_rfl) (fun _ _ _ h => h) (Or.inl ⟨by rfl, ?haq4⟩) (by assumption) ?raq4
      case haq4 => (intro wq hSw; go_simp; (try with_reducible rfl))
      try simp only [Act.put, List.getElem_toArray, List.getElem_cons_zero, List.getElem_cons_succ, List.setIfInBounds_toArray, List.set_cons_zero, List.set_cons_succ]
      refine wpAnyH_take (i := 4) (v := ?vaq5) rfl (by kernel_rfl) (by kernel_rfl) (by kernel_rfl) (fun _ _ _ h => h) (Or.inl ⟨by rfl, ?haq5⟩) (by assumption) ?raq5
      case haq5 => (intro wq hSw; go_simp; (try with_reducible rfl))
      try simp only [Act.put, List.getElem_toArray, List.getElem_cons_zero, List.getElem_cons_succ, List.setIfInBounds_toArray, List.set_cons_zero, List.set_cons_succ]
      refine wpAnyH_take (i := 5) (v := ?vaq6) rfl (by kernel_rfl) (by kernel_rfl) (by kernel_rfl) (fun _ _ _ h => h) (Or.inl ⟨by rfl, ?haq6⟩) (by assumption) ?raq6
      case haq6 => (intro wq hSw; obtain ⟨cs, hX, _⟩ := hSw; have e0 := hX.cell 0; simp only [List.getElem?_cons_zero] at e0; go_simp; (try with_reducible rfl))
      try simp only [Act.put, List.getElem_toArray, List.getElem_cons_zero, List.getElem_cons_succ, List.setIfInBounds_toArray, List.set_cons_zero, List.set_cons_succ]
      refine wpAnyH_take (i := 6) (v := ?vaq7) rfl (by kernel_rfl) (by kernel_rfl) (by kernel_rfl) (fun _ _ _ h => h) (Or.inl ⟨by rfl, ?haq7⟩) (by assumption) ?raq7
      case haq7 => (intro wq hSw; go_simp; (try with_reducible rfl))
      try simp only [Act.put, List.getElem_toArray, List.getElem_cons_zero, List.getElem_cons_succ, List.setIfInBounds_toArray, List.set_cons_zero, List.set_cons_succ]
      refine wpAnyH_take (i := 8) (v := ?vaq8) rfl (by kernel_rfl) (by kernel_rfl) (by kernel_rfl) (fun _ _ _ h => h) (Or.inl ⟨by rfl, ?haq8⟩) (by assumption) ?raq8
      case haq8 => (intro wq hSw; go_simp; (try with_reducible rfl))
      try simp only [Act.put, List.getElem_toArray, List.getElem_cons_zero, List.getElem_cons_succ, List.setIfInBounds_toArray, List.set_cons_zero, List.set_cons_succ]
      refine wpAnyH_take (i := 12) (v := ?vaq9) rfl (by kernel_rfl) (by kernel_rfl) (by kernel_rfl) (fun _ _ _ h => h) (Or.inl ⟨by rfl, ?haq9⟩) (by assumption) ?raq9
      case haq9 => (intro wq hSw; go_simp; (try with_reducible rfl))
      try simp only [Act.put, List.getElem_toArray, List.getElem_cons_zero, List.getElem_cons_succ, List.setIfInBounds_toArray, List.set_cons_zero, List.set_cons_succ]
      refine wpAnyH_take (i := 13) (v := ?vaq10) rfl (by kernel_rfl) (by kernel_rfl) (by kernel_rfl) (fun _ _ _ h => h) (Or.inl ⟨by rfl, ?haq10⟩) (by assumption) ?raq10
      case haq10 => (intro wq hSw; go_simp; (try with_reducible rfl))
      try simp only [Act.put, List.getElem_toArray, List.getElem_cons_zero, List.getElem_cons_succ, List.setIfInBounds_toArray, List.set_cons_zero, List.set_cons_succ]
      refine wpAnyH_ready (rs := [7]) (by kernel_rfl) (by simp) ?_
      refine AllReadyH.cons (o := _) rfl (fun K hK => ?_) ?_
      · skip
        go_simp
        refine (shape_any k hlt wd).mono ?_
        rintro e ws1 ⟨rfl, hb⟩
        unfold shpN
        have HF1 := hide (HF0.out.below hb HF0.out.lt)
        have HO1 := hide (HO0.out.kp (F := NoF) (Kp.of_below hb) (fun h => h) (fun h => h))
        have HKp1 := hide (HKp0.out.same (Kp.of_below hb))
        clear hb
        refine hK.out _ _ (⟨_, HF1.out, HKp1.out⟩) (fun hHeld => ?_)
        clear hK K 
        try simp only [Act.put, List.getElem_toArray, List.getElem_cons_zero, List.getElem_cons_succ, List.setIfInBounds_toArray, List.set_cons_zero, List.set_cons_succ]
        refine wpAnyH_ready (rs := [9]) (by kernel_rfl) (by simp) ?_
        refine AllReadyH.cons (o := _) rfl (fun K hK => ?_) ?_
        · skip
          have hTk := take_any bo g _ _ 2 _ ws1 HO1.out (.inr (.inl rfl)) (by rw [List.length_append, Pl.be_len]; omega) HByt.out
          rw [List.take_left' (Pl.be_len 2 _), List.drop_left' (Pl.be_len 2 _), HUn.out] at hTk
          have HTk := hide hTk
          clear hTk
          go_simp
          refine HTk.out.mono ?_
          rintro e ws2 ⟨rfl, A2, c2, hop, hk⟩
          have HF2 := hide (HF1.out.kp hk (fun e => hne.symm e))
          have HO2 := hide hop
          have HKp2 := hide (HKp1.out.trans hk (fun i hi => .inl (.inr hi)))
          clear hop hk HTk
          refine hK.out _ _ (⟨_, HF2.out, HKp2.out⟩) (fun hHeld => ?_)
          clear hK K 
          try simp only [Act.put, List.getElem_toArray, List.getElem_cons_zero, List.getElem_cons_succ, List.setIfInBounds_toArray, List.set_cons_zero, List.set_cons_succ]
          refine wpAnyH_take (i := 10) (v := ?vaq11) rfl (by kernel_rfl) (by kernel_rfl) (by kernel_rfl) (fun _ _ _ h => h) (Or.inl ⟨by rfl, ?haq11⟩) (by assumption) ?raq11
          case haq11 => (intro wq hSw; go_simp; (try with_reducible rfl))
          try simp only [Act.put, List.getElem_toArray, List.getElem_cons_zero, List.getElem_cons_succ, List.setIfInBounds_toArray, List.set_cons_zero, List.set_cons_succ]
          refine wpAnyH_take (i := 11) (v := ?vaq12) rfl (by kernel_rfl) (by kernel_rfl) (by kernel_rfl) (fun _ _ _ h => h) (Or.inl ⟨by rfl, ?haq12⟩) (by assumption) ?raq12
          case haq12 => (intro wq hSw; go_simp; (try with_reducible rfl))
          try simp only [Act.put, List.getElem_toArray, List.getElem_cons_zero, List.getElem_cons_succ, List.setIfInBounds_toArray, List.set_cons_zero, List.set_cons_succ]
          refine wpAnyH_take (i := 14) (v := ?vaq13) rfl (by kernel_rfl) (by kernel_rfl) (by kernel_rfl) (fun _ _ _ h => h) (Or.inl ⟨by rfl, ?haq13⟩) (by assumption) ?raq13
          case haq13 => (intro wq hSw; go_simp; (try with_reducible rfl))
          try simp only [Act.put, List.getElem_toArray, List.getElem_cons_zero, List.getElem_cons_succ, List.setIfInBounds_toArray, List.set_cons_zero, List.set_cons_succ]
          refine wpAnyH_ready (rs := [15]) (by kernel_rfl) (by simp) ?_
          refine AllReadyH.cons (o := _) rfl (fun K hK => ?_) ?_
          · skip
            have y0 : ws2.cell? ⟨fb, 1 + k * 4, none⟩ = some (.pointer none) := by rw [HF2.out.cell]; exact forC_none bs r k 0 hlt (by decide)
            have x0 := HF2.out.frozen (1 + k * 4)
            have y1 : ws2.cell? ⟨fb, 1 + k * 4 + 1, none⟩ = some (.int .i64 0) := by rw [HF2.out.cell]; exact forC_none bs r k 1 hlt (by decide)
            have x1 := HF2.out.frozen (1 + k * 4 + 1)
            have y2 : ws2.cell? ⟨fb, 1 + k * 4 + 2, none⟩ = some (.int .i64 0) := by rw [HF2.out.cell]; exact forC_none bs r k 2 hlt (by decide)
            have x2 := HF2.out.frozen (1 + k * 4 + 2)
            have y3 : ws2.cell? ⟨fb, 1 + k * 4 + 3, none⟩ = some (.int .i64 0) := by rw [HF2.out.cell]; exact forC_none bs r k 3 hlt (by decide)
            have x3 := HF2.out.frozen (1 + k * 4 + 3)
            go_simp
            have hf0 := (((HF2.out.set_ (1 + k * 4) (.pointer (some ⟨bs, 0, none⟩))).set_ (1 + k * 4 + 1) (.int .i64 (kwOf k))).set_ (1 + k * 4 + 2) (.int .i64 (vwOf k))).set_ (1 + k * 4 + 3) (.int .i64 (r k))
            rw [forC_set bs r k hlt] at hf0
            have HFS := hide hf0
            have hkf := ((((Kp.refl (OnlyF fb) ws2).setCell (p := ⟨fb, 1 + k * 4, none⟩) (.inl rfl) (.pointer (some ⟨bs, 0, none⟩))).setCell (p := ⟨fb, 1 + k * 4 + 1, none⟩) (.inl rfl) (.int .i64 (kwOf k))).setCell (p := ⟨fb, 1 + k * 4 + 2, none⟩) (.inl rfl) (.int .i64 (vwOf k))).setCell (p := ⟨fb, 1 + k * 4 + 3, none⟩) (.inl rfl) (.int .i64 (r k))
            have HKS := hide (HKp2.out.trans hkf (fun i hi => .inl (.inl hi)))
            have HOS := hide (HO2.out.kp hkf (fun e => hne e) (fun e => hgn e))
            clear hf0 hkf y0 y1 y2 y3 x0 x1 x2 x3
            generalize ((((ws2.setCell ⟨fb, 1 + k * 4, none⟩ (.pointer (some ⟨bs, 0, none⟩))).setCell ⟨fb, 1 + k * 4 + 1, none⟩ (.int .i64 (kwOf k))).setCell ⟨fb, 1 + k * 4 + 2, none⟩ (.int .i64 (vwOf k))).setCell ⟨fb, 1 + k * 4 + 3, none⟩ (.int .i64 (r k))) = wz at *
            refine hK.out _ _ (⟨_, HFS.out, HKS.out⟩) (fun hHeld => ?_)
            clear hK K 
            try simp only [Act.put, List.getElem_toArray, List.getElem_cons_zero, List.getElem_cons_succ, List.setIfInBounds_toArray, List.set_cons_zero, List.set_cons_succ]
            refine wpAnyH_done (by kernel_rfl) ?_ _
            have HL3 := hide (show LdW w2 wz ⟨bs, bl, bd, n, P, note, bk, bt, bc⟩ F d1 fb bo g r (k + 1) from ⟨HL.out.ps.kpx HKS.out (fun i hi => hi.elim (fun h => by have h : i = fb := h; rw [h]; exact HFar.out) (fun h => by have h : i = bo := h; rw [h]; exact HFo.out)), HFS.out, ⟨_, _, HOS.out⟩, HL.out.kp.same HKS.out⟩)
            have y3 : wz.cell? ⟨fb, 1 + k * 4 + 3, none⟩ = some (.int .i64 (r k)) := by rw [HFS.out.cell]; exact forC_at bs r k 3 hlt (by decide)
            have y0 : wz.cell? ⟨fb, 0, none⟩ = some (.pointer (some ⟨bs, 0, none⟩)) := HFS.out.cell 0
            have b1 : (r k == 1) = false := beq_false_of_ne r2
            have b2 : decide ((P : Int) ≤ r k) = false := decide_eq_false (by omega)
            have HPgs := hide (pages_any HL3.out.ps)
            clear HL HFS HOS HKS hHeld
            go_wp2_with fail
            refine HPgs.out.mono ?_
            rintro e w' ⟨rfl, rfl⟩
            go_wp2_with fail
            go_roundw
            case rel => exact ⟨k + 1, by omega, by go_num, HL3.out⟩
            case measure => (try simp [Go.RowKit.intOf]); omega
          exact AllReadyH.nil
        exact AllReadyH.nil
      exact AllReadyH.nil
    · obtain rfl : k = 8 := by omega
      have HFP := hide (fpage_any fb bs r wr HL.out.fo (fun j hj => ⟨(HR.out j hj).1, by have := (HR.out j hj).2.1; omega⟩))
      go_wp2_with fail
      refine HFP.out.mono ?_
      rintro e w9 ⟨A9, c9, rfl, ho, hb9⟩
      have hflen : (forC bs r 0).length = 35 := rfl
      have hne1 : ∀ off, A1 ≠ some ⟨fb, off, none⟩ := mem_ne_whole HM1.out (rootsB_len r) HW1.out (by rw [hflen]; decide)
      have hs2 := HB2.out.size
      have hs3 := HL.out.kp.size
      have hs9 := hb9.size
      have hm9 : Mem w9 w9.heap.size A1 (bv (rootsB r)) := by
        intro h0
        obtain ⟨b, off, e, hb, hc⟩ := HM1.out h0
        refine ⟨b, off, e, by omega, fun i hi => ?_⟩
        have hbf : b ≠ fb := fun he => hne1 off (by rw [e, he])
        have hbo' : b ≠ bo := by omega
        rw [hb9.cell (p := ⟨b, off + i, none⟩) (by show b < wr.heap.size; omega), HL.out.kp.cell (p := ⟨b, off + i, none⟩) (by show b < w2.heap.size; omega) (fun h => h.elim hbf hbo'), HB2.out.cell (p := ⟨b, off + i, none⟩) hb, hc i hi]
      have HEq := hide (equal_any A9 A1 (rootsB r) (rootsB r) c9 512 _ _ w9 (owns_mem ho) hm9 (rootsB_byt r) (rootsB_byt r))
      rw [rootsB_len, decide_eq_true rfl] at HEq
      have HP9 := hide (HL.out.ps.below hb9)
      have HF9 := hide (HL.out.fo.below hb9 HL.out.fo.lt)
      have hboW := HW.out.lt
      have HKW := hide ((((HK1.out.mono (G := fun b => b = fb ∨ TwoF bs bk b) (fun i hi => .inl (.inr hi))).trans (Kp.of_below (F := NoF) HB2.out) (fun _ h => h.elim)).trans HL.out.kp (fun i hi => by
        rcases hi with h | h
        · exact .inl (.inl h)
        · exact .inr (by have h : i = bo := h; omega))).trans (Kp.of_below (F := NoF) hb9) (fun _ h => h.elim))
      clear ho hm9 HFP
      go_wp2_with fail
      refine HEq.out.mono ?_
      rintro e w' ⟨rfl, rfl⟩
      go_wp2_with fail
      go_ret
      exact ⟨rfl, HP9.out, HF9.out, HKW.out⟩
end Go.Proofs.YtnnfiicmplkakaaGreatDoor
namespace Go.Proofs.YtnnfiicmplkakaaGreatDoor
open Go.RowKit Go.Shelf

def TabZ (W : World) : Prop := TabAt 1 Lib.deBruijn64tab W
theorem TabZ.kp {W W' : World} {F : Nat → Prop} (h : TabZ W) (hb : Kp F W W') (hn : ¬ F 1) : TabZ W' := fun j hj => by
  have h1 := h j hj
  exact (hb.cell (p := ⟨1, j, none⟩) (cell_lt h1) hn).trans h1
/-- the blocks of a page store that its methods turn, but the disk's -/
def StF (s : PgS) (k : Nat) : Prop := k = s.bs ∨ k = s.bk ∨ k = s.bt ∨ k = s.bc
theorem hi_mono {a b : Nat} (h : 0 < a ∧ 1 < a) (hab : a ≤ b) : 0 < b ∧ 1 < b := ⟨Nat.lt_of_lt_of_le h.1 hab, Nat.lt_of_lt_of_le h.2 hab⟩
/-- none of its blocks is a variable's of the program -/
structure PgLo (s : PgS) : Prop where
  bs : 0 < s.bs ∧ 1 < s.bs
  bk : 0 < s.bk ∧ 1 < s.bk
  bt : 0 < s.bt ∧ 1 < s.bt
  bc : 0 < s.bc ∧ 1 < s.bc
  bl : 0 < s.bl ∧ 1 < s.bl
theorem PgLo.st {s : PgS} (h : PgLo s) {k : Nat} (hk : StF s k) : 0 < k ∧ 1 < k := by
  rcases hk with rfl | rfl | rfl | rfl
  · exact h.bs
  · exact h.bk
  · exact h.bt
  · exact h.bc
theorem zeros_len : (zeros 512).length = 512 := List.length_replicate
def AllocRes (s : PgS) (F : Nat → Prop) (d : PgD) (i : Nat) (W : World) (e : Ending) (W' : World) : Prop := e = .returned (.tuple #[.int .i64 (i : Int), .int .i64 0]) ∧ PSv W' s F d ∧ Kp (StF s) W W'
def PgD.alloc (d : PgD) (s : PgS) (ws : List Nat) (i : Nat) : PgD := ((d.read 0).put 0 (nI (bytesTo (setB ws i) s.P))).put i (zeros 512)
theorem PgD.read_q (d : PgD) (i : Nat) : (d.read i).q ≤ d.q + 1 := by
  unfold PgD.read
  split
  · exact Nat.le_succ _
  · split
    · exact Nat.le_succ _
    · exact Nat.le_refl _
set_option maxHeartbeats 2000000 in
set_option maxRecDepth 20000 in
theorem alloc_any (s : PgS) (F : Nat → Prop) (d : PgD) (ws : List Nat) (i : Nat) (W : World) (h : PSv W s F d) (ho : PgOk s d) (hlo : PgLo s) (hx : MapPg s d ws) (hq : d.q ≤ 90000) (hi : i < s.P) (hT : TabZ W)
    (hfind : ∀ w, TabZ w → Calls Tryz.prog 107 #[mapV s.P ws] w fun e w' => e = .returned (.tuple #[.int .i64 (i : Int), .bool true]) ∧ Below w.heap.size w w') :
    Calls Tryz.prog 66 #[.pointer (some ⟨s.bs, 0, none⟩)] W (AllocRes s F (d.alloc s ws i) i W) := by
  have HUsed := hide (used_any s F d ws W h ho hx)
  have HI := hide (show (Tryz.prog.info? 194).map (·.size) = some (mapC s.P ws).toArray.size from mapInfo hx.ok.len)
  have HIn := hide (mapInfo (n := s.P) hx.ok.len)
  have HOne := hide (all_oneCell_toArray (mapC_one s.P ws))
  have hz : (mapC 0 zeroWs).toArray.size = (mapC s.P ws).toArray.size := by rw [List.size_toArray, List.size_toArray, mapC_len rfl, mapC_len hx.ok.len]
  have HZ := hide hz
  have HFind := hide hfind
  have HTz := hide hT
  have hrq := d.read_q 0
  have HSets := fun w (h' : PSv w s F (d.read 0)) => hide (sets_any s F (d.read 0) ws i w h' (by omega) hx.ok hi)
  have hP1 := ho.P1
  have HBc := hide (show ∀ k, OnlyF s.bc k → StF s k from fun k hk => .inr (.inr (.inr hk)))
  have hlts := h.lts
  clear h ho hx hz hfind hT
  generalize hR : AllocRes _ _ _ _ _ = R
  have HR := hide hR
  clear hR
  unfold UsedRes mapV at *
  go_enter Tryz.func66, Tryz.ntmps66
  go_wp2_with fail
  refine HUsed.out.mono ?_
  rintro e w1 ⟨rfl, hps, hk⟩
  have HP1 := hide hps
  have HK1 := hide (Kp.mono (G := StF s) hk (fun j hj => .inl (hj.elim .inl (fun e => .inr (.inl e)))))
  clear hps hk HUsed
  have hM2 : Whole (w1.alloc (.cells (mapC s.P ws).toArray 194)) _ _ _ := Whole.new w1 (mapC s.P ws) 194
  have hb2 : Below w1.heap.size w1 (w1.alloc (.cells (mapC s.P ws).toArray 194)) := (Below.refl _ _).alloc (Nat.le_refl _) _
  have HM2 := hide hM2
  have HB2 := hide hb2
  have hlt1 := HP1.out.lts
  clear hM2 hb2
  go_upto_region 2 with (refine wpList_store_new w1 rfl 194 _ _ rfl _ (mapC s.P ws).toArray rfl rfl HI.out HZ.out HOne.out ?_)
  generalize w1.alloc (.cells (mapC s.P ws).toArray 194) = w2 at *
  have HP2 := hide (HP1.out.below HB2.out)
  have HK2 := hide (HK1.out.same (Kp.of_below HB2.out))
  generalize hb4 : w1.heap.size = b4 at *
  have hnb4 : ¬ OnlyF s.bc b4 := fun e => by have : b4 = s.bc := e; omega
  clear hb4
  have HR2 := hide HM2.out.range
  have HTz2 := hide (HTz.out.kp HK2.out (fun e => by have := hlo.st e; omega))
  go_wp2_with (refine wpList_load_mid rfl 194 _ rfl b4 0 rfl (mapC s.P ws) _ HR2.out Tryz.underlying194 rfl HIn.out ?_)
  refine (HFind.out w2 HTz2.out).mono ?_
  rintro e w3 ⟨rfl, hb⟩
  have HP3 := hide (HP2.out.below hb)
  have HK3 := hide (HK2.out.same (Kp.of_below hb))
  have HM3 := hide (HM2.out.below hb HM2.out.lt)
  clear hb HR2
  have HR3 := hide HM3.out.range
  go_wp2_with (refine wpList_load_mid rfl 194 _ rfl b4 0 rfl (mapC s.P ws) _ HR3.out Tryz.underlying194 rfl HIn.out ?_)
  refine (HSets w3 HP3.out).out.mono ?_
  rintro e w4 ⟨rfl, hps, hk⟩
  have HP4 := hide hps
  have HK4 := hide (HK3.out.trans hk (fun j hj => .inl (HBc.out j hj)))
  clear hps hk
  have c6 := HP4.out.st.cell 6
  simp only [List.getElem?_cons_zero, List.getElem?_cons_succ] at c6
  obtain ⟨w5, hrun, hps, hk⟩ := HP4.out.change i (zeros 512) (by omega) (by show (d.read 0).q + 1 ≤ _; omega) zeros_len (zeros_byt 512)
  unfold pgV at hrun
  rw [← zpage] at hrun
  have HPf := hide hps
  have HKf := hide (HK4.out.trans hk (fun j hj => .inl (HBc.out j hj)))
  clear hps hk
  go_wp2_with fail
  rw [← HR.out]
  exact ⟨rfl, HPf.out, HKf.out⟩
end Go.Proofs.YtnnfiicmplkakaaGreatDoor
namespace Go.Proofs.YtnnfiicmplkakaaGreatDoor
open Go.RowKit Go.Shelf Go.Lib

/-- the pages that a function has, rising -/
structure Rising (f : Nat → Option (List Int)) (ks : List Nat) : Prop where
  up : ks.Pairwise (· < ·)
  mem : ∀ i, i ∈ ks ↔ (f i).isSome = true
def castL (ks : List Nat) : List Int := ks.map fun (k : Nat) => (k : Int)
theorem castL_up {ks : List Nat} (h : ks.Pairwise (· < ·)) : (castL ks).Pairwise fun x y => decide (x ≤ y) = true := by
  unfold castL
  rw [List.pairwise_map]
  exact h.imp fun hab => by simp; omega
theorem nodup_up {ks : List Nat} (h : ks.Pairwise (· < ·)) : (castL ks).Nodup := by
  unfold castL
  rw [List.Nodup, List.pairwise_map]
  exact h.imp fun hab => by omega
/-- a map's keys are those that its function has -/
theorem PgV.perm {W : World} {b n : Nat} {D : DataW Unit} {f : Nat → Option (List Int)} {ks : List Nat} (h : PgV D f) (ho : W.ownsMap Tryz.prog 3 pgR b n D) (hr : Rising f ks) : (castL ks).Perm (intKeys D) := by
  refine CollectedI.perm (left := fun _ => false) ⟨nodup_up hr.up, fun x => ⟨fun hx => ⟨?_, rfl⟩, fun hx => ?_⟩⟩ ho (Maps.int_keyed Tryz.underlying3) Tryz.underlying3 (fun _ => rfl)
  · obtain ⟨k, hk, rfl⟩ := List.mem_map.1 hx
    have hs := (hr.mem k).1 hk
    obtain ⟨xs, hxs⟩ := Option.isSome_iff_exists.1 hs
    exact (h.some_ k xs hxs).1
  · obtain ⟨i, e, _⟩ := h.keys _ hx.1
    injection e with _ e
    subst e
    refine List.mem_map.2 ⟨i, (hr.mem i).2 ?_, rfl⟩
    cases hf : f i with
    | some xs => rfl
    | none =>
      have := h.none_ i hf
      rw [hx.1] at this
      cases this
theorem sorted_keys {D : DataW Unit} {ks : List Nat} {ss : List Int} (hp : (castL ks).Perm (intKeys D)) (hu : ks.Pairwise (· < ·)) (hs : ss.Perm (intKeys D)) : (ss.mergeSort fun x y => decide (x ≤ y)) = castL ks := by
  rw [mergeSort_of_perm_i (hs.trans hp.symm)]
  exact List.mergeSort_of_pairwise (castL_up hu)
theorem PgV.size {W : World} {b n : Nat} {D : DataW Unit} {f : Nat → Option (List Int)} {ks : List Nat} (h : PgV D f) (ho : W.ownsMap Tryz.prog 3 pgR b n D) (hr : Rising f ks) : Maps.size D = ks.length := by
  have h1 := (h.perm ho hr).length_eq
  obtain ⟨es, _, _, _, _, rfl⟩ := ho
  simp only [castL, List.length_map, intKeys] at h1
  rw [Maps.size_eq, h1]
/-- the change's text, as bytes -/
def pageT (f : Nat → Option (List Int)) (ks : List Nat) : List Int := ks.flatMap fun (k : Nat) => Pl.be 2 (k : Int) ++ (f k).getD []
theorem pageT_snoc (f : Nat → Option (List Int)) (ks : List Nat) (k : Nat) : pageT f (ks ++ [k]) = pageT f ks ++ (Pl.be 2 (k : Int) ++ (f k).getD []) := by simp [pageT]
theorem pageT_len {f : Nat → Option (List Int)} {ks : List Nat} (h : ∀ k ∈ ks, ∃ xs, f k = some xs ∧ xs.length = 512) : (pageT f ks).length = ks.length * 514 := by
  induction ks with
  | nil => rfl
  | cons k ks ih =>
    have h1 := ih fun j hj => h j (List.mem_cons_of_mem _ hj)
    obtain ⟨xs, e, hl⟩ := h k (List.mem_cons_self)
    simp only [pageT, List.flatMap_cons, List.length_append, e, Option.getD_some, Pl.be_len, hl] at h1 ⊢
    rw [h1, List.length_cons]
    omega
end Go.Proofs.YtnnfiicmplkakaaGreatDoor
namespace Go.Proofs.YtnnfiicmplkakaaGreatDoor
open Go.RowKit Go.Shelf Go.Lib

/-- maps.Keys at the pages -/
def KeysOk : Prop := ∀ (b : Nat) (W : World), Calls Tryz.prog 160 #[.map (some b)] W fun e w' => e = .returned (.func (.func 197) #[] #[.pointer (some ⟨W.heap.size, 0, none⟩)]) ∧ W.alloc (.cells #[.map (some b)] 157) = w'
/-- slices.Sorted at them -/
def SortedOk : Prop := ∀ (b nn : Nat) (D0 : DataW Unit) (W : World), W.ownsMap Tryz.prog 3 pgR b nn D0 → Maps.size D0 ≤ 100000 →
    Calls Tryz.prog 159 #[.func (.func 197) #[] #[.pointer (some ⟨W.heap.size, 0, none⟩)]] (W.alloc (.cells #[.map (some b)] 157)) fun e w' =>
      ∃ (v : Value) (ss : List Int), e = .returned v ∧ ss.Perm (intKeys D0) ∧ w'.ownsRow (W.heap.size + 1) 3 1 v ss.length ((ss.mergeSort (fun x y => decide (x ≤ y))).map (Value.int .i64)) ∧ Below (W.heap.size + 1) (W.alloc (.cells #[.map (some b)] 157)) w'
/-- while the text is made; W3: behind the sort -/
structure TxSt (W3 wr : World) (bp : Nat) (xs : List Int) : Prop where
  ex : ∃ v, Pk wr bp v xs ∧ ∀ j, pkF bp v j → j = bp ∨ W3.heap.size ≤ j
  kp : Kp (OnlyF bp) W3 wr
theorem TxSt.below {W3 wr w' : World} {bp : Nat} {xs : List Int} (h : TxSt W3 wr bp xs) (hb : Below wr.heap.size wr w') : TxSt W3 w' bp xs := by
  obtain ⟨⟨v, h1, h2⟩, h3⟩ := h
  exact ⟨⟨v, h1.below hb, h2⟩, h3.same (Kp.of_below hb)⟩
theorem TxSt.put {W3 wr w' : World} {bp : Nat} {ys : List Int} {v : Value} {e : Ending} (hv : ∀ j, pkF bp v j → j = bp ∨ W3.heap.size ≤ j) (hk : Kp (OnlyF bp) W3 wr) (h : PutRes bp v ys wr e w') : e = .returned (.pointer (some ⟨bp, 0, none⟩)) ∧ TxSt W3 w' bp ys := by
  obtain ⟨v', he, h1, h2, h3⟩ := h
  exact ⟨he, ⟨v', h1, fun j hj => (h3 j hj).elim (hv j) (fun h => .inr (Nat.le_trans hk.size h))⟩, hk.trans h2 hv⟩
theorem castL_at (ks : List Nat) (k : Nat) (h : k < ks.length) : ((castL ks).map (Value.int .i64))[k]? = some (.int .i64 (ks[k] : Nat)) := by
  rw [castL, List.map_map, List.getElem?_map, List.getElem?_eq_getElem h]
  rfl
theorem castL_get (ks : List Nat) (k : Nat) (h : k < ks.length) : ((castL ks).map (Value.int .i64))[k]'(by rw [List.length_map, castL, List.length_map]; exact h) = .int .i64 (ks[k] : Nat) := by simp [castL]
set_option maxHeartbeats 2000000 in
set_option maxRecDepth 20000 in
theorem ptext_any (hKeys : KeysOk) (hSort : SortedOk) (s : PgS) (F : Nat → Prop) (d : PgD) (ks : List Nat) (W : World) (h : PSv W s F d) (hr : Rising d.ch ks) (hn : ks.length ≤ 1024) :
    Calls Tryz.prog 109 #[.pointer (some ⟨s.bs, 0, none⟩)] W fun e W' => e = .returned (.string (strOfNums (pageT d.ch ks))) ∧ Below W.heap.size W W' := by
  have HPS := hide h
  have HKe := hide hKeys
  have HSo := hide hSort
  have HRi := hide hr
  have hlt := h.lts
  have hz : ∀ w, (zeroValue 209).run Tryz.prog w = .ok (pgV (zeros 512)) w := fun w => by
    have := Tryz.zeroValue209 w
    rw [this, zpage]
    rfl
  have HZ := hide hz
  clear h hKeys hSort hr hz
  go_enter Tryz.func109, Tryz.ntmps109
  go_wp2_with fail
  refine (new_any W).mono ?_
  rintro e w1 ⟨rfl, rfl⟩
  have HPk := hide (Pk.new W)
  have hb1 : Below W.heap.size W (W.alloc (.cells #[.slice none 0 0, .int .i64 0] 213)) := (Below.refl _ _).alloc (Nat.le_refl _) _
  have hsz1 : (W.alloc (.cells #[.slice none 0 0, .int .i64 0] 213)).heap.size = W.heap.size + 1 := by simp
  have HB1 := hide hb1
  have HSz := hide hsz1
  clear hb1 hsz1
  generalize W.alloc (.cells #[.slice none 0 0, .int .i64 0] 213) = w1 at *
  have HP1 := hide (HPS.out.below HB1.out)
  have c6 : w1.cell? ⟨s.bs, 6, none⟩ = some (.map (some s.bc)) := HP1.out.st.cell 6
  go_wp2_with fail
  refine (HKe.out s.bc w1).mono ?_
  rintro e w2 ⟨rfl, rfl⟩
  go_wp2_with fail
  obtain ⟨Dk, Dt, Dc, hp1, v1, v2, v3⟩ := HP1.out
  have hperm := v3.perm hp1.change HRi.out
  have hsize := v3.size hp1.change HRi.out
  refine (HSo.out s.bc d.q Dc w1 hp1.change (by rw [hsize]; omega)).mono ?_
  rintro e w3 ⟨v, ss, rfl, hss, hrow, hb3⟩
  have hlen : ss.length = ks.length := by
    have h1 := hss.length_eq
    have h2 := hperm.length_eq
    rw [castL, List.length_map] at h2
    omega
  rw [sorted_keys hperm HRi.out.up hss, hlen] at hrow
  obtain ⟨A, cc, rfl⟩ := owns_slice hrow
  have hbk : Below w1.heap.size w1 (w1.alloc (.cells #[.map (some s.bc)] 157)) := (Below.refl _ _).alloc (Nat.le_refl _) _
  have HB13 := hide (hbk.trans (hb3.mono (Nat.le_succ _)))
  have HRow := hide hrow
  have HT3 := hide (show TxSt w3 w3 W.heap.size (pageT d.ch (ks.take 0)) from ⟨⟨.slice none 0 0, HPk.out.below HB13.out, fun j hj => hj.elim .inl (fun e => by cases e)⟩, Kp.refl _ _⟩)
  have HP3 := hide (HP1.out.below HB13.out)
  have hsz3 := HB13.out.size
  have hz1 := HSz.out
  have hltk := HP1.out.lts
  clear hss hrow hb3 hbk hperm hsize hp1 v1 v2 v3 c6 HPk
  go_wp2_with fail
  go_loopw [17] (fun x wr => ∃ k : Nat, k ≤ ks.length ∧ x = .int .i64 k ∧ TxSt w3 wr W.heap.size (pageT d.ch (ks.take k))) (fun x _ => ks.length - (Go.RowKit.intOf x).toNat)
  case atStart => exact ⟨0, Nat.zero_le _, rfl, HT3.out⟩
  case round =>
    obtain ⟨k, hk, rfl, ⟨⟨v, hpk, hv⟩, hkp⟩⟩ := hrel
    have hnb : ∀ j, OnlyF W.heap.size j → j ≠ s.bs ∧ j ≠ s.bk ∧ j ≠ s.bt ∧ j ≠ s.bc ∧ j ≠ s.bl ∧ ¬ F j := fun j hj => by
      have hj' : j = W.heap.size := hj
      exact ⟨by omega, by omega, by omega, by omega, by omega, fun hf => by have := HPS.out.nlt _ hf; omega⟩
    have HPr := hide (HP3.out.kpx hkp hnb)
    have HKp := hide hkp
    have HV := hide hv
    have HPk := hide hpk
    have HAll := hide (show ∀ j ∈ ks, ∃ xs, d.ch j = some xs ∧ xs.length = 512 from fun j hj => by
      obtain ⟨xs, hxs⟩ := Option.isSome_iff_exists.1 ((HRi.out.mem j).1 hj)
      obtain ⟨_, _, _, _, _, _, v3⟩ := HPS.out
      exact ⟨xs, hxs, (v3.some_ j xs hxs).2.2.1⟩)
    have HPl := hide (show (pageT d.ch (ks.take k)).length ≤ 526336 by
      rw [pageT_len (fun j hj => HAll.out j (List.mem_of_mem_take hj)), List.length_take]
      omega)
    have hszk := hkp.size
    clear hkp hv hpk hnb
    by_cases hlt : k < ks.length
    · obtain ⟨xs, hxs⟩ := Option.isSome_iff_exists.1 ((HRi.out.mem _).1 (List.getElem_mem hlt))
      have hstep : pageT d.ch (ks.take (k + 1)) = pageT d.ch (ks.take k) ++ (Pl.be 2 (ks[k] : Nat) ++ xs) := by
        rw [List.take_succ_eq_append_getElem hlt, pageT_snoc, hxs]
        rfl
      obtain ⟨Ek, Et, Ec, hp, u1, u2, u3⟩ := HPr.out
      obtain ⟨hh, _, hl, hby⟩ := u3.some_ _ xs hxs
      obtain ⟨i0, hi0, hi1⟩ := u3.keys _ hh
      have hik : ks[k] = i0 := by injection hi0 with _ e; omega
      obtain ⟨v0, ps, hrun, hv0⟩ := hp.change.lookup (Maps.int_keyed Tryz.underlying3) Tryz.underlying157 (HZ.out wr) (pgR_val _ zeros_len) (key := .int .i64 (ks[k] : Nat)) (kl := .int .i64 (ks[k] : Nat)) (Maps.keyOf_int_mk Tryz.underlying3 (WalkArith.wf_i64 (by omega)))
      obtain ⟨rfl, _⟩ := u3.found hxs hv0
      unfold pgV at hrun
      obtain ⟨g, rfl, hg0, hg1, hgc⟩ := owns_form HRow.out (by rw [List.length_map, castL, List.length_map]; omega)
      have hcell : wr.cell? ⟨g, k, none⟩ = some (.int .i64 (ks[k] : Nat)) := by
        rw [HKp.out.cell (p := ⟨g, k, none⟩) hg1 (fun e => by have e' : g = W.heap.size := e; omega), hgc k (by rw [List.length_map, castL, List.length_map]; exact hlt), castL_get ks k hlt]
      have c6 : wr.cell? ⟨s.bs, 6, none⟩ = some (.map (some s.bc)) := hp.st.cell 6
      have HStep := hide hstep
      have HLx := hide hl
      have HBy := hide hby
      have HFa := hide (page_facts hl)
      have HW5 := hide (show Whole (wr.alloc (.cells (bv xs).toArray 209)) wr.heap.size _ _ from Whole.new wr (bv xs) 209)
      have hb5 : Below wr.heap.size wr (wr.alloc (.cells (bv xs).toArray 209)) := (Below.refl _ _).alloc (Nat.le_refl _) _
      have HB5 := hide hb5
      have hnb5 : ¬ pkF W.heap.size v wr.heap.size := fun hf => by have := HPk.out.lt hf; omega
      clear hp u1 u2 u3 hv0 hh hl hby hgc hstep hb5 hi0 hxs
      generalize ks[k] = i at *
      have hiw : IntKind.u64.wrap (i : Int) = (i : Int) := by rw [IntKind.wrap_u64]; omega
      have hi9 : i < 1024 := by omega
      clear hik
      go_upto_region 6 with (refine wpList_store_new wr rfl 209 _ _ rfl Tryz.zeroCells209 (bv xs).toArray rfl rfl HFa.out.1 HFa.out.2.1 HFa.out.2.2 ?_)
      clear hrun hcell c6
      have hszr : wr.heap.size ≤ wr.heap.size := Nat.le_refl _
      generalize wr.alloc (.cells (bv xs).toArray 209) = w5 at *
      refine wp_region_held_drew (S := (fun w' => Kp (OnlyF W.heap.size) w3 w')) (by kernel_rfl) ((HKp.out.same (Kp.of_below HB5.out)).drew) (fun hHeld => ?_)
      have HPd := hide ((HPk.out.below HB5.out).below (Below.refl w5.heap.size w5).drew)
      have HWd := hide (HW5.out.below (Below.refl w5.heap.size w5).drew HW5.out.lt)
      generalize w5.drew = wd at *
      refine wpAnyH_take (i := 0) (v := ?vaq1) rfl (by kernel_rfl) (by kernel_rfl) (by kernel_rfl) (fun _ _ _ h => h) (Or.inl ⟨by rfl, ?haq1⟩) (by assumption) ?raq1
      case haq1 => (intro wq hSw; go_simp; (try with_reducible rfl))
      try simp only [Act.put, List.getElem_toArray, List.getElem_cons_zero, List.setIfInBounds_toArray, List.set_cons_zero, List.set_cons_succ]
      refine wpAnyH_take (i := 1) (v := ?vaq2) rfl (by kernel_rfl) (by kernel_rfl) (by kernel_rfl) (fun _ _ _ h => h) (Or.inl ⟨by rfl, ?haq2⟩) (by assumption) ?raq2
      case haq2 => (intro wq hSw; go_simp; (try with_reducible rfl))
      try simp only [Act.put, List.getElem_toArray, List.getElem_cons_zero, List.getElem_cons_succ, List.setIfInBounds_toArray, List.set_cons_zero, List.set_cons_succ]
      refine wpAnyH_take (i := 2) (v := ?vaq3) rfl (by kernel_rfl) (by kernel_rfl) (by kernel_rfl) (fun _ _ _ h => h) (Or.inl ⟨by rfl, ?haq3⟩) (by assumption) ?raq3
      case haq3 => (intro wq hSw; go_simp; (try with_reducible rfl))
      try simp only [Act.put, List.getElem_toArray, List.getElem_cons_zero, List.getElem_cons_succ, List.setIfInBounds_toArray, List.set_cons_zero, List.set_cons_succ]
      refine wpAnyH_take (i := 4) (v := ?vaq4) rfl (by kernel_rfl) (by kernel_rfl) (by kernel_rfl) (fun _ _ _ h => h) (Or.inl ⟨by rfl, ?haq4⟩) (by assumption) ?raq4
      case haq4 => (intro wq hSw; go_simp; (try with_reducible rfl))
      try simp only [Act.put, List.getElem_toArray, List.getElem_cons_zero, List.getElem_cons_succ, List.setIfInBounds_toArray, List.set_cons_zero, List.set_cons_succ]
      refine wpAnyH_ready (rs := [3, 5]) (by kernel_rfl) (by simp) ?_
      refine AllReadyH.cons (o := _) rfl (fun K hK => ?_) ?_
      · skip
        go_simp
        refine (put_go W.heap.size v _ 2 (i : Int) wd HPd.out (by have := HPl.out; omega) (.inr (.inl rfl)) (by omega) (by omega)).mono ?_
        rintro e w6 hr
        have hk6 : Kp (pkF W.heap.size v) wd w6 := by obtain ⟨_, _, _, h2, _⟩ := hr; exact h2
        have HW6 := hide (HWd.out.kp hk6 hnb5)
        obtain ⟨rfl, ht6⟩ := TxSt.put HV.out hHeld hr
        have HT6 := hide ht6
        clear hr ht6 hk6
        refine hK.out _ _ (HT6.out.kp) (fun hHeld => ?_)
        clear hK K 
        try simp only [Act.put, List.getElem_toArray, List.getElem_cons_zero, List.getElem_cons_succ, List.setIfInBounds_toArray, List.set_cons_zero, List.set_cons_succ]
        refine wpAnyH_ready (rs := [5]) (by kernel_rfl) (by simp) ?_
        refine AllReadyH.cons (o := _) rfl (fun K hK => ?_) ?_
        · skip
          have hcv := conv_str HW6.out.mem 512
          rw [HLx.out] at hcv
          go_simp
          refine hK.out _ _ (hHeld) (fun hHeld => ?_)
          clear hK K hcv
          try simp only [Act.put, List.getElem_toArray, List.getElem_cons_zero, List.getElem_cons_succ, List.setIfInBounds_toArray, List.set_cons_zero, List.set_cons_succ]
          refine wpAnyH_ready (rs := [6]) (by kernel_rfl) (by simp) ?_
          refine AllReadyH.cons (o := _) rfl (fun K hK => ?_) ?_
          · skip
            go_simp
            obtain ⟨⟨v6, hpk6, hv6⟩, hkp6⟩ := HT6.out
            refine (text_any W.heap.size v6 _ (strOfNums xs) w6 hpk6 (by rw [List.length_append, Pl.be_len, strOfNums_size, HLx.out]; have := HPl.out; omega)).mono ?_
            rintro e w7 hr
            obtain ⟨rfl, ht7⟩ := TxSt.put hv6 hkp6 hr
            rw [bs_nums HBy.out, List.append_assoc, ← HStep.out] at ht7
            have HT7 := hide ht7
            clear hr ht7 hpk6 hv6 hkp6
            refine hK.out _ _ (HT7.out.kp) (fun hHeld => ?_)
            clear hK K 
            try simp only [Act.put, List.getElem_toArray, List.getElem_cons_zero, List.getElem_cons_succ, List.setIfInBounds_toArray, List.set_cons_zero, List.set_cons_succ]
            refine wpAnyH_done (by kernel_rfl) ?_ _
            clear hHeld
            go_wp2_with fail
            go_roundw
            case rel => exact ⟨k + 1, by omega, by go_num, HT7.out⟩
            case measure => simp [Go.RowKit.intOf]; omega
          exact AllReadyH.nil
        exact AllReadyH.nil
      refine AllReadyH.cons (o := _) rfl (fun K hK => ?_) ?_
      · skip
        have hcv := conv_str HWd.out.mem 512
        rw [HLx.out] at hcv
        go_simp
        refine hK.out _ _ (hHeld) (fun hHeld => ?_)
        clear hK K hcv
        try simp only [Act.put, List.getElem_toArray, List.getElem_cons_zero, List.getElem_cons_succ, List.setIfInBounds_toArray, List.set_cons_zero, List.set_cons_succ]
        refine wpAnyH_ready (rs := [3]) (by kernel_rfl) (by simp) ?_
        refine AllReadyH.cons (o := _) rfl (fun K hK => ?_) ?_
        · skip
          go_simp
          refine (put_go W.heap.size v _ 2 (i : Int) wd HPd.out (by have := HPl.out; omega) (.inr (.inl rfl)) (by omega) (by omega)).mono ?_
          rintro e w6 hr
          have hk6 : Kp (pkF W.heap.size v) wd w6 := by obtain ⟨_, _, _, h2, _⟩ := hr; exact h2
          have HW6 := hide (HWd.out.kp hk6 hnb5)
          obtain ⟨rfl, ht6⟩ := TxSt.put HV.out hHeld hr
          have HT6 := hide ht6
          clear hr ht6 hk6
          refine hK.out _ _ (HT6.out.kp) (fun hHeld => ?_)
          clear hK K 
          try simp only [Act.put, List.getElem_toArray, List.getElem_cons_zero, List.getElem_cons_succ, List.setIfInBounds_toArray, List.set_cons_zero, List.set_cons_succ]
          refine wpAnyH_ready (rs := [6]) (by kernel_rfl) (by simp) ?_
          refine AllReadyH.cons (o := _) rfl (fun K hK => ?_) ?_
          · skip
            go_simp
            obtain ⟨⟨v6, hpk6, hv6⟩, hkp6⟩ := HT6.out
            refine (text_any W.heap.size v6 _ (strOfNums xs) w6 hpk6 (by rw [List.length_append, Pl.be_len, strOfNums_size, HLx.out]; have := HPl.out; omega)).mono ?_
            rintro e w7 hr
            obtain ⟨rfl, ht7⟩ := TxSt.put hv6 hkp6 hr
            rw [bs_nums HBy.out, List.append_assoc, ← HStep.out] at ht7
            have HT7 := hide ht7
            clear hr ht7 hpk6 hv6 hkp6
            refine hK.out _ _ (HT7.out.kp) (fun hHeld => ?_)
            clear hK K 
            try simp only [Act.put, List.getElem_toArray, List.getElem_cons_zero, List.getElem_cons_succ, List.setIfInBounds_toArray, List.set_cons_zero, List.set_cons_succ]
            refine wpAnyH_done (by kernel_rfl) ?_ _
            clear hHeld
            go_wp2_with fail
            go_roundw
            case rel => exact ⟨k + 1, by omega, by go_num, HT7.out⟩
            case measure => simp [Go.RowKit.intOf]; omega
          exact AllReadyH.nil
        exact AllReadyH.nil
      exact AllReadyH.nil
    · have hk' : k = ks.length := by omega
      subst hk'
      have hfull : ks.take ks.length = ks := List.take_length
      have HPf := hide (show Pk wr W.heap.size v (pageT d.ch ks) from by have := HPk.out; rw [hfull] at this; exact this)
      have HPlf := hide (show (pageT d.ch ks).length ≤ 526336 from by have := HPl.out; rw [hfull] at this; exact this)
      clear hfull HPk HPl
      generalize hys : pageT d.ch ks = ys at *
      have HYs := hide hys
      clear hys
      go_wp2_with fail
      refine (bytes_any W.heap.size v ys wr HPf.out (by have := HPlf.out; omega)).mono ?_
      rintro e w9 ⟨v9, rfl, ho, hb⟩
      obtain ⟨A9, c9, rfl⟩ := owns_slice ho
      have hcv := conv_str (owns_mem ho) c9
      have HB9 := hide hb
      clear ho hb
      go_wp2_with fail
      go_ret
      refine ⟨by first | rfl | (rw [HYs.out]; rfl), ?_⟩
      have hb13 : Below W.heap.size W w3 := HB1.out.trans (HB13.out.mono (by omega))
      exact (hb13.trans (HKp.out.below (by omega) (fun i hi => by have : i = W.heap.size := hi; omega))).trans (HB9.out.mono (by omega))
end Go.Proofs.YtnnfiicmplkakaaGreatDoor
namespace Go.Proofs
open Go.Shelf
def Tryz.keysP_ren : Go.Shelf.Ren := ⟨fun | 7 => 160 | 10 => 197 | n => n, fun | 23 => 157 | 26 => 3 | 3 => 209 | 28 => 254 | 0 => 0 | 27 => 253 | 33 => 97 | 4 => 4 | n => n, fun | n => n⟩
theorem Tryz.keysP : Go.Proofs.SlLaysZI.n7 Tryz.prog Tryz.keysP_ren := {
  mixed := by kernel_rfl
  f7 := ⟨Tryz.f160.name, by decide, Tryz.func160.trans (congrArg some (by kernel_rfl))⟩
  f10 := ⟨Tryz.f197.name, by decide, Tryz.func197.trans (congrArg some (by kernel_rfl))⟩
  t0 := Tryz.underlying0
  a0 := Tryz.isAgg0
  z0 := Tryz.sizeOf0
  v0 := Tryz.zeroValue0
  t4 := Tryz.underlying4
  a4 := Tryz.isAgg4
  z4 := Tryz.sizeOf4
  v4 := Tryz.zeroValue4
  t23 := Tryz.underlying157
  a23 := Tryz.isAgg157
  z23 := Tryz.sizeOf157
  v23 := Tryz.zeroValue157
  t26 := Tryz.underlying3
  a26 := Tryz.isAgg3
  z26 := Tryz.sizeOf3
  v26 := Tryz.zeroValue3
  t27 := Tryz.underlying253
  a27 := Tryz.isAgg253
  z27 := Tryz.sizeOf253
  v27 := Tryz.zeroValue253
  t28 := Tryz.underlying254
  a28 := Tryz.isAgg254
  z28 := Tryz.sizeOf254
  v28 := Tryz.zeroValue254
  t33 := Tryz.underlying97
  a33 := Tryz.isAgg97
  z33 := Tryz.sizeOf97
  v33 := Tryz.zeroValue97 }
def Tryz.sortedP_ren : Go.Shelf.Ren := ⟨fun | 6 => 159 | 8 => 195 | 9 => 196 | 11 => 219 | 13 => 221 | 12 => 220 | 23 => 246 | 24 => 247 | 14 => 237 | 15 => 238 | 16 => 239 | 17 => 240 | 18 => 241 | 19 => 242 | 20 => 243 | 21 => 244 | 22 => 245 | 25 => 262 | 26 => 263 | 27 => 264 | 28 => 265 | 29 => 266 | 30 => 267 | 31 => 277 | n => n, fun | 26 => 3 | 28 => 254 | 24 => 219 | 0 => 0 | 3 => 3 | 37 => 99 | 48 => 168 | 50 => 66 | 4 => 4 | 40 => 325 | 39 => 324 | 45 => 206 | 5 => 5 | 9 => 9 | 51 => 343 | 55 => 347 | 57 => 358 | 58 => 359 | 33 => 97 | n => n, fun | n => n⟩
theorem Tryz.sortedP : Go.Proofs.SlLaysZI.n6 Tryz.prog Tryz.sortedP_ren := {
  mixed := by kernel_rfl
  f6 := ⟨Tryz.f159.name, by decide, Tryz.func159.trans (congrArg some (by kernel_rfl))⟩
  f8 := ⟨Tryz.f195.name, by decide, Tryz.func195.trans (congrArg some (by kernel_rfl))⟩
  f11 := ⟨Tryz.f219.name, by decide, Tryz.func219.trans (congrArg some (by kernel_rfl))⟩
  t0 := Tryz.underlying0
  a0 := Tryz.isAgg0
  z0 := Tryz.sizeOf0
  v0 := Tryz.zeroValue0
  t24 := Tryz.underlying219
  a24 := Tryz.isAgg219
  z24 := Tryz.sizeOf219
  v24 := Tryz.zeroValue219
  t26 := Tryz.underlying3
  a26 := Tryz.isAgg3
  z26 := Tryz.sizeOf3
  v26 := Tryz.zeroValue3
  t28 := Tryz.underlying254
  a28 := Tryz.isAgg254
  z28 := Tryz.sizeOf254
  v28 := Tryz.zeroValue254
  i26 := by kernel_rfl }
def Tryz.sortP_ren : Go.Shelf.Ren := ⟨fun | 5 => 196 | 8 => 221 | 7 => 220 | 19 => 246 | 20 => 247 | 10 => 237 | 11 => 238 | 12 => 239 | 13 => 240 | 14 => 241 | 15 => 242 | 16 => 243 | 17 => 244 | 18 => 245 | 30 => 262 | 31 => 263 | 32 => 264 | 33 => 265 | 34 => 266 | 35 => 267 | 40 => 277 | n => n, fun | 23 => 219 | 25 => 3 | 3 => 3 | 32 => 99 | 22 => 219 | 0 => 0 | 44 => 168 | 46 => 66 | 4 => 4 | 36 => 325 | 35 => 324 | 41 => 206 | 5 => 5 | 9 => 9 | 53 => 343 | 57 => 347 | 63 => 358 | 64 => 359 | n => n, fun | n => n⟩
theorem Tryz.sortP : Go.Proofs.SlLaysM.n5 Tryz.prog Tryz.sortP_ren := {
  mixed := by kernel_rfl
  f5 := ⟨Tryz.f196.name, by decide, Tryz.func196.trans (congrArg some (by kernel_rfl))⟩
  f7 := ⟨Tryz.f220.name, by decide, Tryz.func220.trans (congrArg some (by kernel_rfl))⟩
  f8 := Tryz.func221.trans (congrArg some (by kernel_rfl))
  f10 := ⟨Tryz.f237.name, by decide, Tryz.func237.trans (congrArg some (by kernel_rfl))⟩
  f11 := ⟨Tryz.f238.name, by decide, Tryz.func238.trans (congrArg some (by kernel_rfl))⟩
  f12 := ⟨Tryz.f239.name, by decide, Tryz.func239.trans (congrArg some (by kernel_rfl))⟩
  f13 := ⟨Tryz.f240.name, by decide, Tryz.func240.trans (congrArg some (by kernel_rfl))⟩
  f14 := ⟨Tryz.f241.name, by decide, Tryz.func241.trans (congrArg some (by kernel_rfl))⟩
  f15 := ⟨Tryz.f242.name, by decide, Tryz.func242.trans (congrArg some (by kernel_rfl))⟩
  f16 := ⟨Tryz.f243.name, by decide, Tryz.func243.trans (congrArg some (by kernel_rfl))⟩
  f17 := ⟨Tryz.f244.name, by decide, Tryz.func244.trans (congrArg some (by kernel_rfl))⟩
  f18 := ⟨Tryz.f245.name, by decide, Tryz.func245.trans (congrArg some (by kernel_rfl))⟩
  f19 := Tryz.func246.trans (congrArg some (by kernel_rfl))
  f20 := Tryz.func247.trans (congrArg some (by kernel_rfl))
  f30 := ⟨Tryz.f262.name, by decide, Tryz.func262.trans (congrArg some (by kernel_rfl))⟩
  f31 := Tryz.func263.trans (congrArg some (by kernel_rfl))
  f32 := Tryz.func264.trans (congrArg some (by kernel_rfl))
  f33 := ⟨Tryz.f265.name, by decide, Tryz.func265.trans (congrArg some (by kernel_rfl))⟩
  f34 := ⟨Tryz.f266.name, by decide, Tryz.func266.trans (congrArg some (by kernel_rfl))⟩
  f35 := ⟨Tryz.f267.name, by decide, Tryz.func267.trans (congrArg some (by kernel_rfl))⟩
  f40 := ⟨Tryz.f277.name, by decide, Tryz.func277.trans (congrArg some (by kernel_rfl))⟩
  t0 := Tryz.underlying0
  a0 := Tryz.isAgg0
  z0 := Tryz.sizeOf0
  v0 := Tryz.zeroValue0
  t3 := Tryz.underlying3
  a3 := Tryz.isAgg3
  z3 := Tryz.sizeOf3
  v3 := Tryz.zeroValue3
  t4 := Tryz.underlying4
  a4 := Tryz.isAgg4
  z4 := Tryz.sizeOf4
  v4 := Tryz.zeroValue4
  t5 := Tryz.underlying5
  a5 := Tryz.isAgg5
  z5 := Tryz.sizeOf5
  v5 := Tryz.zeroValue5
  t9 := Tryz.underlying9
  a9 := Tryz.isAgg9
  z9 := Tryz.sizeOf9
  v9 := Tryz.zeroValue9
  t22 := Tryz.underlying219
  a22 := Tryz.isAgg219
  z22 := Tryz.sizeOf219
  v22 := Tryz.zeroValue219
  t23 := Tryz.underlying219
  a23 := Tryz.isAgg219
  z23 := Tryz.sizeOf219
  v23 := Tryz.zeroValue219
  t25 := Tryz.underlying3
  a25 := Tryz.isAgg3
  z25 := Tryz.sizeOf3
  v25 := Tryz.zeroValue3
  t32 := Tryz.underlying99
  a32 := Tryz.isAgg99
  z32 := Tryz.sizeOf99
  v32 := Tryz.zeroValue99
  t35 := Tryz.underlying324
  a35 := Tryz.isAgg324
  z35 := Tryz.sizeOf324
  v35 := Tryz.zeroValue324
  t36 := Tryz.underlying325
  a36 := Tryz.isAgg325
  z36 := Tryz.sizeOf325
  v36 := Tryz.zeroValue325
  t41 := Tryz.underlying206
  a41 := Tryz.isAgg206
  z41 := Tryz.sizeOf206
  v41 := Tryz.zeroValue206
  t44 := Tryz.underlying168
  a44 := Tryz.isAgg168
  z44 := Tryz.sizeOf168
  v44 := Tryz.zeroValue168
  t46 := Tryz.underlying66
  a46 := Tryz.isAgg66
  z46 := Tryz.sizeOf66
  v46 := Tryz.zeroValue66
  t53 := Tryz.underlying343
  a53 := Tryz.isAgg343
  z53 := Tryz.sizeOf343
  v53 := Tryz.zeroValue343
  t57 := Tryz.underlying347
  a57 := Tryz.isAgg347
  z57 := Tryz.sizeOf347
  v57 := Tryz.zeroValue347
  t63 := Tryz.underlying358
  a63 := Tryz.isAgg358
  z63 := Tryz.sizeOf358
  v63 := Tryz.zeroValue358
  t64 := Tryz.underlying359
  a64 := Tryz.isAgg359
  z64 := Tryz.sizeOf359
  v64 := Tryz.zeroValue359 }
end Go.Proofs
namespace Go.Proofs.YtnnfiicmplkakaaGreatDoor
open Go.RowKit Go.Maps Go.Sort Go.Shelf Go.Lib

theorem psorts (m : Nat) : AnyZI.SortsIn Tryz.prog Tryz.sortedP_ren Fence.wide m :=
  ⟨fun blk off cap ss W hH hblk hsz => callsIn_wide.2 (AnyM.slices_Sort_int Tryz.sortP blk off cap ss W hH hblk hsz),
   fun p cap W => callsIn_wide.2 (AnyM.slices_Sort_int_none Tryz.sortP p cap W)⟩
set_option maxHeartbeats 1000000 in
theorem pkeys_any (b : Nat) (W : World) : Calls Tryz.prog 160 #[.map (some b)] W fun e w' => e = .returned (.func (.func 197) #[] #[.pointer (some ⟨W.heap.size, 0, none⟩)]) ∧ W.alloc (.cells #[.map (some b)] 157) = w' := by
  have h : CallsIn Fence.wide 5 Tryz.prog 160 #[.map (some b)] W fun e w' => e = .returned (.func (.func 197) #[] #[.pointer (some ⟨W.heap.size, 0, none⟩)]) ∧ w' = W.alloc (.cells #[.map (some b)] 157) := AnyZI.keys_in Tryz.keysP Fence.wide 5 trivial rfl (some b) W
  exact (callsIn_wide.1 h).mono fun _ _ hh => ⟨hh.1, hh.2.symm⟩
set_option maxHeartbeats 1000000 in
theorem psorted_any (b nn : Nat) (D0 : DataW Unit) (W : World) (hown : W.ownsMap Tryz.prog 3 pgR b nn D0) (hmax : Maps.size D0 ≤ 100000) :
    Calls Tryz.prog 159 #[.func (.func 197) #[] #[.pointer (some ⟨W.heap.size, 0, none⟩)]] (W.alloc (.cells #[.map (some b)] 157)) fun e w' =>
      ∃ (v : Value) (ss : List Int), e = .returned v ∧ ss.Perm (intKeys D0) ∧ w'.ownsRow (W.heap.size + 1) 3 1 v ss.length ((ss.mergeSort (fun x y => decide (x ≤ y))).map encZ) ∧ Below (W.heap.size + 1) (W.alloc (.cells #[.map (some b)] 157)) w' := by
  have hbl := hown.lt
  have hseq : SeqGives Fence.wide 2 Tryz.prog 197 #[.pointer (some ⟨W.heap.size, 0, none⟩)] encZ (fun ss => ss.Perm (intKeys D0)) (Maps.size D0) (W.alloc (.cells #[.map (some b)] 157)) :=
    AnyZI.keys_gives (ρ := Tryz.keysP_ren) { Tryz.keysP with } Fence.wide _ trivial rfl (by omega) W.heap.size b nn D0 _ (by simp) (by simp) (by
      obtain ⟨es, clock, hb, Ft, hs, hD⟩ := hown
      exact ⟨es, clock, (Below.heap_alloc _ _ b hbl).trans hb, Ft, hs, hD⟩)
  have cS := AnyZI.sorted_in Tryz.sortedP Fence.wide 5 trivial trivial trivial trivial rfl (by omega) (psorts _) (enters_of Tryz.func196 (by kernel_rfl) rfl) 197 #[.pointer (some ⟨W.heap.size, 0, none⟩)] trivial (enters_of Tryz.func197 (by kernel_rfl) rfl) _ _ (by unfold maxLen; omega) (by omega) _ hseq
  change CallsIn _ _ Tryz.prog 159 _ _ _ at cS
  have hsz : (W.alloc (.cells #[.map (some b)] 157)).heap.size = W.heap.size + 1 := by simp
  refine (callsIn_wide.1 cS).mono ?_
  rintro e w' ⟨v, ss, rfl, hS, hrow, _, hb⟩
  rw [hsz] at hrow hb
  exact ⟨v, ss, rfl, hS, hrow, hb⟩
end Go.Proofs.YtnnfiicmplkakaaGreatDoor
namespace Go.Proofs.YtnnfiicmplkakaaGreatDoor
open Go.RowKit Go.Shelf Go.Maps Go.MapKept Go.ChangeMaps Go.WideElems

theorem keysOk : KeysOk := pkeys_any
theorem sortedOk : SortedOk := psorted_any
section
variable {H : Type} {P : Program} {w : World} {t k e : TypeId} {R : Value → Option (DataW H × List MemPlace)} {b n : Nat} {D : DataW H}
/-- a map that lies in a block as in another world -/
theorem own_same {w2 : World} (h : w.ownsMap P k R b n D) (hb : w2.heap[b]? = w.heap[b]?) : w2.ownsMap P k R b n D := by
  obtain ⟨es, clock, h1, h2⟩ := h
  exact ⟨es, clock, hb.trans h1, h2⟩
/-- an entry is asked for, and written -/
theorem own_entry (h : w.ownsMap P k R b n D) (K : Keyed P k) (ht : P.underlying t = some (.map k e)) {z : Value} (hz : ∀ u : World, (zeroValue e).run P u = .ok z u) (hn : n < maxLen) {key : Value} {kl : Lit} (hkey : keyOf P k key = some kl) :
    ∃ (v0 : Value) (st : Nat) (es1 : Array MapEntry) (ck1 : Nat), (Instr.mapEntry t (.map (some b)) key).run P w = .ok (.tuple #[v0, .int .i64 (st : Int)]) (setBlock w b (.map es1 ck1)) ∧ (setBlock w b (.map es1 ck1)).heap[b]? = some (.map es1 ck1) ∧
      ∀ (w2 : World) (val : Value) (d : DataW H) (ps : List MemPlace), w2.heap[b]? = some (.map es1 ck1) → R val = some (d, ps) →
        ∃ o, (Instr.entryStore t (.map (some b)) (.int .i64 (st : Int)) val).run P w2 = .ok () (setBlock w2 b o) ∧ (setBlock w2 b o).ownsMap P k R b (n + 1) (D.put kl d) := by
  have hown := h
  obtain ⟨es, clock, hb, F, hs, rfl⟩ := h
  obtain ⟨s1, s2, _⟩ := F.stamped
  have fin : ∀ (w2 : World) (val : Value) (d : DataW H) (ps : List MemPlace) (es1 : Array MapEntry) (ck1 : Nat) (o : Obj), w2.heap[b]? = some (.map es1 ck1) → R val = some (d, ps) → (Instr.mapUpdate t (.map (some b)) key val).run P w = .ok () (setBlock w b o) →
      (setBlock w2 b o).ownsMap P k R b (n + 1) ((DataW.map ((es.toList.map (rg P k R)).foldr DataW.insert [])).put kl d) := by
    intro w2 val d ps es1 ck1 o hw2 hv hr
    obtain ⟨w', hr', ho, _⟩ := hown.store K ht hn hkey hv
    rw [hr] at hr'
    injection hr' with _ hr'
    subst hr'
    exact own_same ho (by rw [heap_setBlock_same hw2, heap_setBlock_same hb])
  rcases K.find w hkey es.toList F.keys with ⟨h1, h2⟩ | ⟨j, e0, h1, h2, h3⟩
  · refine ⟨z, clock, es.push ⟨key, z, clock⟩, clock + 1, ?_, heap_setBlock_same hb _, fun w2 val d ps hw2 hv => ⟨.map (es.push ⟨key, val, clock⟩) (clock + 1), ?_, fin w2 val d ps _ _ _ hw2 hv ?_⟩⟩
    · simp [Instr.mapEntry, run_underlying ht, Go.MapKept.run_getObj_map hb, K.check w false hkey, h1, hz, Go.MapKept.run_setObj_map _ hb, Result.andThen, setBlock, goInt]
    · have hidx : (es.push ⟨key, z, clock⟩).findIdx? (fun e => ((e.born : Nat) : Int) == ((clock : Nat) : Int)) = some es.size := by
        rw [findIdx_arr]
        refine findIdx_born (l := (es.push ⟨key, z, clock⟩).toList) (j := es.size) (e0 := ⟨key, z, clock⟩) ?_ (by simp)
        simp only [Array.toList_push, List.map_append, List.map_cons, List.map_nil]
        refine List.nodup_append.2 ⟨s2, by simp, fun a ha c hc e1 => ?_⟩
        simp only [List.mem_singleton] at hc
        obtain ⟨x, hx, rfl⟩ := List.mem_map.1 ha
        have := s1 x hx
        omega
      have hmod : (es.push ⟨key, z, clock⟩).modify es.size (fun e => { e with val := val }) = es.push ⟨key, val, clock⟩ := by
        apply Array.ext'
        rw [Array.toList_modify, Array.toList_push, Array.toList_push, ← Array.length_toList, modify_last]
      simp [Instr.entryStore, Go.MapKept.run_getObj_map hw2, asInt, asIntOf, hidx, hmod, Go.MapKept.run_setObj_map _ hw2, Result.andThen, setBlock]
    · simp [Instr.mapUpdate, run_underlying ht, Go.MapKept.run_getObj_map hb, K.check w false hkey, h1, Go.MapKept.run_setObj_map _ hb, Result.andThen, setBlock]
  · have hj : es[j]? = some e0 := by simpa using h2
    have hsame : es.modify j (fun e => { e with key := key }) = es := by
      apply Array.ext'
      rw [Array.toList_modify, modify_eq_set _ _ _ _ h2]
      have : ({ e0 with key := key } : MapEntry) = e0 := by rw [← h3]
      rw [this]
      exact set_self _ _ _ h2
    refine ⟨e0.val, e0.born, es, clock, ?_, heap_setBlock_same hb _, fun w2 val d ps hw2 hv => ⟨.map (es.modify j (fun e' => { e' with key := key, val := val })) clock, ?_, fin w2 val d ps _ _ _ hw2 hv ?_⟩⟩
    · simp [Instr.mapEntry, run_underlying ht, Go.MapKept.run_getObj_map hb, K.check w false hkey, h1, hj, h3, K.stays w hkey, hsame, Go.MapKept.run_setObj_map _ hb, Result.andThen, setBlock, goInt]
    · have hidx : es.findIdx? (fun e => ((e.born : Nat) : Int) == ((e0.born : Nat) : Int)) = some j := by
        rw [findIdx_arr]
        exact findIdx_born s2 h2
      have hmod : es.modify j (fun e => { e with val := val }) = es.modify j (fun e' => { e' with key := key, val := val }) := by
        apply Array.ext'
        rw [Array.toList_modify, Array.toList_modify, modify_eq_set _ _ _ _ h2, modify_eq_set _ _ _ _ h2, ← h3]
      simp [Instr.entryStore, Go.MapKept.run_getObj_map hw2, asInt, asIntOf, hidx, hmod, Go.MapKept.run_setObj_map _ hw2, Result.andThen, setBlock]
    · simp [Instr.mapUpdate, run_underlying ht, Go.MapKept.run_getObj_map hb, K.check w false hkey, h1, hj, h3, K.stays w hkey, Go.MapKept.run_setObj_map _ hb, Result.andThen, setBlock]
theorem kp_setBlock {es : Array MapEntry} {clock : Nat} (hb : w.heap[b]? = some (.map es clock)) (o : Obj) : Kp (OnlyF b) w (setBlock w b o) :=
  ⟨rfl, rfl, rfl, by simp [setBlock], fun i _ hn => heap_setBlock_other hb o hn⟩
/-- a map is emptied -/
theorem own_clear (h : w.ownsMap P k R b n D) (ht : P.underlying t = some (.map k e)) (ty : TypeId) : ∃ w', (Builtin.clear_ #[t] ty #[.map (some b)]).run P w = .ok (.tuple #[]) w' ∧ w'.ownsMap P k R b 0 (.map []) ∧ Kp (OnlyF b) w w' := by
  obtain ⟨es, clock, hb, F, hs, rfl⟩ := h
  refine ⟨setBlock w b (.map #[] clock), ?_, ⟨#[], clock, heap_setBlock_same hb _, ⟨by simp, stamped_empty clock, by simp⟩, Nat.le_refl _, rfl⟩, kp_setBlock hb _⟩
  simp [Builtin.clear_, run_underlying ht, Go.MapKept.run_getObj_map hb, Go.MapKept.run_setObj_map _ hb, Result.andThen, setBlock]
end
def PgD.abort (d : PgD) : PgD := { d with ch := fun _ => none }
/-- the change is emptied -/
theorem PSv.cleared {W : World} {s : PgS} {F : Nat → Prop} {d : PgD} (h : PSv W s F d) (ty : TypeId) : ∃ w', (Builtin.clear_ #[157] ty #[.map (some s.bc)]).run Tryz.prog W = .ok (.tuple #[]) w' ∧ PSv w' s F d.abort ∧ Kp (OnlyF s.bc) W w' := by
  obtain ⟨Dk, Dt, Dc, h1, v1, v2, v3⟩ := h
  obtain ⟨w', hr, ho, hk⟩ := own_clear h1.change Tryz.underlying157 ty
  exact ⟨w', hr, ⟨Dk, Dt, .map [], h1.turn hk (fun k hk => .inr (.inr hk)) (owns_kp h1.kept hk (fun e => h1.nm.2.1 e)) (owns_kp h1.dirty hk (fun e => h1.nm.2.2 e)) (ho.mono (Nat.zero_le _)), v1, v2, PgV.empty⟩, hk⟩
set_option maxHeartbeats 400000 in
theorem abort_any (s : PgS) (F : Nat → Prop) (d : PgD) (W : World) (h : PSv W s F d) : Calls Tryz.prog 76 #[.pointer (some ⟨s.bs, 0, none⟩)] W (SetRes s F d.abort W) := by
  obtain ⟨w', hrun, hps, hk⟩ := h.cleared 0
  have c6 : W.cell? ⟨s.bs, 6, none⟩ = some (.map (some s.bc)) := h.st.cell 6
  have HPf := hide hps
  have HKf := hide hk
  clear h hps hk
  go_enter Tryz.func76, Tryz.ntmps76
  go_wp2_with fail
  go_end0
  exact ⟨rfl, HPf.out, HKf.out⟩
end Go.Proofs.YtnnfiicmplkakaaGreatDoor
namespace Go.Proofs.YtnnfiicmplkakaaGreatDoor
open Go.RowKit Go.Shelf Go.Maps Go.ChangeMaps

theorem kp_setB {w : World} (b : Nat) (o : Obj) : Kp (OnlyF b) w (setBlock w b o) :=
  ⟨rfl, rfl, rfl, by simp [setBlock], fun i _ hn => by
    have hn' : b ≠ i := fun e => hn e.symm
    simp [setBlock, hn']⟩
def setT (f : Nat → Bool) (i : Nat) : Nat → Bool := fun j => if j = i then true else f j
theorem BlV.put {D : DataW Unit} {f : Nat → Bool} (h : BlV D f) (hm : Maps.IsMap D) (i : Nat) (hi : i < 1024) (y : DataW Unit) : BlV (D.put (.int .i64 i) y) (setT f i) := by
  refine ⟨fun j => ?_, fun kl hk => ?_⟩
  · unfold setT
    by_cases e : j = i
    · subst e
      rw [if_pos rfl]
      exact Maps.has_put_same hm (i64_key _) _
    · rw [if_neg e]
      have hne : (Lit.int .i64 (j : Int)) ≠ .int .i64 (i : Int) := fun h => by injection h; omega
      exact (Maps.has_put_other hne _).trans (h.has j)
  · by_cases e : kl = .int .i64 i
    · exact ⟨i, e, hi⟩
    · rw [Maps.has_put_other e] at hk
      exact h.keys kl hk
theorem PgV.entry {D : DataW Unit} {f : Nat → Option (List Int)} (h : PgV D f) {x : Int} {c : List Int} {kl : Lit} {y : DataW Unit × List MemPlace} (hkey : keyOf Tryz.prog 3 (.int .i64 x) = some kl) (hl : Maps.has D kl = true) (hv : pgR (pgV c) = some y) (hat : ∀ zd, D.atKey kl zd = y.1) :
    ∃ i : Nat, x = i ∧ i < 1024 ∧ kl = .int .i64 i ∧ f i = some c ∧ c.length = 512 ∧ Byt c := by
  obtain ⟨i, rfl, hi⟩ := h.keys kl hl
  obtain ⟨x', e1, e2, _⟩ := Maps.keyOf_int_inv Tryz.underlying3 hkey
  injection e1 with _ e1
  injection e2 with _ e2
  subst e1
  cases hf : f i with
  | none =>
    have := h.none_ i hf
    rw [hl] at this
    cases this
  | some xs =>
    obtain ⟨_, h2, h3, h4⟩ := h.some_ i xs hf
    obtain ⟨zs, hz, hzl, rfl⟩ := pgR_inv _ _ hv
    have e3 : pgD xs = pgD zs := (h2 (.map [])).symm.trans (hat _)
    obtain rfl := pgD_inj e3
    have e4 : c = xs := by
      have : (bv c).toArray = (bv xs).toArray := by unfold pgV at hz; injection hz
      exact bv_inj (by simpa using this)
    subst e4
    exact ⟨i, e2.symm, hi, rfl, hf, h3, h4⟩
/-- the kept pages, where only some of the change's are still to come -/
def mixK (d : PgD) (left : Lit → Bool) : Nat → Option (List Int) := fun i => match d.ch i with
  | some xs => if left (.int .i64 i) then d.kp i else some xs
  | none => d.kp i
def mixT (d : PgD) (left : Lit → Bool) : Nat → Bool := fun i => match d.ch i with
  | some _ => if left (.int .i64 i) then d.dt i else true
  | none => d.dt i
theorem mixK_step (d : PgD) (left : Lit → Bool) (i : Nat) (c : List Int) (h : d.ch i = some c) : mixK d (fun z => left z && !z.sameKey (.int .i64 i)) = setP (mixK d left) i c := by
  funext j
  unfold mixK setP
  by_cases e : j = i
  · subst e
    rw [h, if_pos rfl]
    simp [Lit.sameKey]
  · rw [if_neg e]
    have e2 : (Lit.int .i64 (j : Int)).sameKey (.int .i64 (i : Int)) = false := by simp [Lit.sameKey]; omega
    simp only [e2, Bool.not_false, Bool.and_true]
theorem mixT_step (d : PgD) (left : Lit → Bool) (i : Nat) (c : List Int) (h : d.ch i = some c) : mixT d (fun z => left z && !z.sameKey (.int .i64 i)) = setT (mixT d left) i := by
  funext j
  unfold mixT setT
  by_cases e : j = i
  · subst e
    rw [h, if_pos rfl]
    simp [Lit.sameKey]
  · rw [if_neg e]
    have e2 : (Lit.int .i64 (j : Int)).sameKey (.int .i64 (i : Int)) = false := by simp [Lit.sameKey]; omega
    simp only [e2, Bool.not_false, Bool.and_true]
/-- behind the log's commit -/
def PgD.logged (d : PgD) (text : ByteArray) : PgD := { d with c := putShs d.c d.h.sec (cutL d.next text), m := 0, next := d.next + needN text.size, used := d.used + needN text.size }
/-- behind a commit -/
def PgD.committed (d : PgD) (ks : List Nat) : PgD := { d.logged (strOfNums (pageT d.ch ks)) with q := d.q + ks.length, kp := mixK d (fun _ => false), dt := mixT d (fun _ => false), ch := fun _ => none }
theorem PSv.disk {W W' : World} {s : PgS} {F F' : Nat → Prop} {d : PgD} {c : Nat → List Int} {m : Nat} {h : Hd} {at_ next used : Int} (hp : PSv W s F d) (hl : LD W' s.bl s.bd s.n F' c m h at_ next used) (hk : Kp (lF s.bl F) W W') (hsub : ∀ k, F' k → F k ∨ W.heap.size ≤ k) :
    PSv W' s F' { d with c := c, m := m, h := h, at_ := at_, next := next, used := used } := by
  have hl1 := hp.lts
  obtain ⟨Dk, Dt, Dc, h1, h2⟩ := hp
  have hn : ∀ b, b < W.heap.size → ¬ F b → b ≠ s.bl → ¬ lF s.bl F b ∧ ¬ F' b := fun b hb hf hbl => ⟨fun e => e.elim hbl hf, fun e => (hsub b e).elim hf (fun hh => by omega)⟩
  have n1 := hn s.bs hl1.1 h1.nf.1 h1.nl.1
  have n2 := hn s.bk hl1.2.1 h1.nf.2.1 h1.nl.2.1
  have n3 := hn s.bt hl1.2.2.1 h1.nf.2.2.1 h1.nl.2.2.1
  have n4 := hn s.bc hl1.2.2.2.1 h1.nf.2.2.2 h1.nl.2.2.2
  exact ⟨Dk, Dt, Dc, ⟨h1.st.kp hk n1.1, hl, owns_kp h1.kept hk n2.1, owns_kp h1.dirty hk n3.1, owns_kp h1.change hk n4.1, ⟨n1.2, n2.2, n3.2, n4.2⟩, h1.nl, h1.ns, h1.nm⟩, h2⟩
/-- all that a page store turns -/
def AllF (s : PgS) (F : Nat → Prop) (k : Nat) : Prop := StF s k ∨ k = s.bl ∨ F k
def CommitRes (s : PgS) (F : Nat → Prop) (d : PgD) (W : World) (e : Ending) (W' : World) : Prop :=
  e = .returned (.int .i64 0) ∧ ∃ F', PSv W' s F' d ∧ Kp (AllF s F) W W' ∧ ∀ k, F' k → F k ∨ W.heap.size ≤ k
/-- while the kept pages are turned; W7: ahead of the range; r: the range's block -/
structure CmR (W7 wr : World) (s : PgS) (F : Nat → Prop) (d : PgD) (Dc : DataW Unit) (r n : Nat) (ks : List Nat) (left : Lit → Bool) (cnt : Nat) : Prop where
  ps : ∃ q, q + cnt ≤ d.q + ks.length ∧ PSv wr s F { d with q := q, kp := mixK d left, dt := mixT d left }
  rg : wr.ranges Tryz.prog 3 pgR s.bc r n Dc left cnt
  lf : ∀ kl, left kl = true → Maps.has Dc kl = true
  kp : Kp (fun k => k = s.bk ∨ k = s.bt ∨ k = r) W7 wr
theorem mixK_all (d : PgD) {D : DataW Unit} (h : PgV D d.ch) : mixK d (Maps.has D) = d.kp := by
  funext i
  unfold mixK
  cases hc : d.ch i with
  | none => rfl
  | some xs => simp only [(h.some_ i xs hc).1, if_true]
theorem mixT_all (d : PgD) {D : DataW Unit} (h : PgV D d.ch) : mixT d (Maps.has D) = d.dt := by
  funext i
  unfold mixT
  cases hc : d.ch i with
  | none => rfl
  | some xs => simp only [(h.some_ i xs hc).1, if_true]
theorem PSv.monoq {W : World} {s : PgS} {F : Nat → Prop} {d : PgD} {q : Nat} (h : PSv W s F d) (hq : d.q ≤ q) : PSv W s F { d with q := q } := by
  obtain ⟨Dk, Dt, Dc, h1, h2⟩ := h
  exact ⟨Dk, Dt, Dc, ⟨h1.st, h1.ld, h1.kept.mono hq, h1.dirty.mono hq, h1.change.mono hq, h1.nf, h1.nl, h1.ns, h1.nm⟩, h2⟩
theorem ranges_same {w w' : World} {k : TypeId} {R : Value → Option (DataW Unit × List MemPlace)} {b r n : Nat} {D : DataW Unit} {left : Lit → Bool} {cnt : Nat} (h : w.ranges Tryz.prog k R b r n D left cnt) (hb : w'.heap[b]? = w.heap[b]?) (hr : w'.heap[r]? = w.heap[r]?) : w'.ranges Tryz.prog k R b r n D left cnt := by
  obtain ⟨es, clock, since, seen, c0, h1, F, hs, hD, h2, rest⟩ := h
  exact ⟨es, clock, since, seen, c0, hb.trans h1, F, hs, hD, hr.trans h2, rest⟩
set_option maxHeartbeats 4000000 in
set_option maxRecDepth 20000 in
theorem pcommit_any (s : PgS) (F : Nat → Prop) (d : PgD) (ks : List Nat) (W : World) (h : PSv W s F d) (hr : Rising d.ch ks) (hne : 0 < ks.length) (hn : ks.length ≤ 1024) (hq : d.q ≤ 90000)
    (hm : d.m ≤ 80000) (hs1 : 1 ≤ d.h.sec) (hs : d.h.sec < 60000) (hsn : 2 + d.h.sec ≤ s.n) (hu0 : 0 ≤ d.used) (hu : d.used + needN (ks.length * 514) ≤ d.h.sec) (hx0 : 0 ≤ d.next) (hx1 : d.next < 4611686018427387904) (ht : Tab W) (hF1 : ¬ F 0) :
    Calls Tryz.prog 67 #[.pointer (some ⟨s.bs, 0, none⟩)] W (CommitRes s F (d.committed ks) W) := by
  have HPS := hide h
  have HRi := hide hr
  have HT := hide ht
  have HTxt := hide (ptext_any keysOk sortedOk s F d ks W h hr hn)
  have hTsz : (strOfNums (pageT d.ch ks)).size = ks.length * 514 := by
    rw [strOfNums_size, pageT_len (fun j hj => by
      obtain ⟨xs, hxs⟩ := Option.isSome_iff_exists.1 ((hr.mem j).1 hj)
      obtain ⟨_, _, _, _, _, _, v3⟩ := h
      exact ⟨xs, hxs, (v3.some_ j xs hxs).2.2.1⟩)]
  obtain ⟨Dk, Dt, Dc, hp, v1, v2, v3⟩ := h
  have hsize := v3.size hp.change hr
  have hlen := hp.change.len Tryz.underlying157 3
  have c6 : W.cell? ⟨s.bs, 6, none⟩ = some (.map (some s.bc)) := hp.st.cell 6
  have c7 : W.cell? ⟨s.bs, 7, none⟩ = some (.bool false) := hp.st.cell 7
  have hne0 : ((ks.length : Int) == 0) = false := by rw [beq_eq_false_iff_ne]; omega
  rw [hsize] at hlen
  have HRes := hide (show d.committed ks = { d.logged (strOfNums (pageT d.ch ks)) with q := d.q + ks.length, kp := mixK d (fun _ => false), dt := mixT d (fun _ => false), ch := fun _ => none } from rfl)
  have hlts := HPS.out.lts
  clear hp v1 v2 v3 hr ht hsize
  generalize hR : CommitRes s F (d.committed ks) W = R
  have HR := hide hR
  clear hR
  generalize hT : strOfNums (pageT d.ch ks) = T at *
  have HTe := hide hT
  clear hT
  have hneed := need_any T.size
  have HNeed := fun w => hide (hneed w (by omega))
  have HTs := hide hTsz
  have hnd1 : needN T.size = needN (ks.length * 514) := by rw [hTsz]
  have hndl : needN T.size ≤ 2000 := by rw [hTsz]; unfold needN; omega
  have hu' : d.used + (needN T.size : Nat) ≤ d.h.sec := by rw [hnd1]; exact hu
  clear hTsz hneed hnd1 hu
  go_enter Tryz.func67, Tryz.ntmps67
  go_wp2_with fail
  refine HTxt.out.mono ?_
  rintro e w1 ⟨rfl, hb⟩
  have HP1 := hide (HPS.out.below hb)
  have HB1 := hide hb
  clear hb hlen c6 c7
  go_wp2_with fail
  refine (HNeed w1).out.mono ?_
  rintro e w' ⟨rfl, rfl⟩
  have HLd1 := hide (show LD w1 s.bl s.bd s.n F d.c d.m d.h d.at_ d.next d.used from by obtain ⟨_, _, _, h1, _⟩ := HP1.out; exact h1.ld)
  have c0 : w1.cell? ⟨s.bs, 0, none⟩ = some (.pointer (some ⟨s.bl, 0, none⟩)) := HP1.out.st.cell 0
  have d2 : decide ((d.h.sec : Int) < (needN T.size : Nat)) = false := by simp; omega
  have d3 : decide ((d.h.sec : Int) - d.used < (needN T.size : Nat)) = false := by simp; omega
  go_wp2_with fail
  refine (lsec_any HLd1.out.lg).mono ?_
  rintro e w' ⟨rfl, rfl⟩
  go_wp2_with fail
  refine (lleft_any HLd1.out.lg hu0 (by omega) hs).mono ?_
  rintro e w' ⟨rfl, rfl⟩
  go_wp2_with fail
  refine (lcommit_any s.bl s.bd s.n F d.c d.m d.h d.at_ d.next d.used T w1 HLd1.out (by omega) hs1 hs hsn hu0 hu' hx0 hx1 (by have := HTs.out; omega) (HT.out.below HB1.out) hF1).mono ?_
  rintro e w2 ⟨rfl, F', hl2, hk2, hf2⟩
  have hp2 := HP1.out.disk hl2 hk2 hf2
  change PSv w2 s F' (d.logged T) at hp2
  have HK2 := hide ((Kp.of_below (F := AllF s F) HB1.out).trans hk2 (fun j hj => .inl (.inr hj)))
  have HF2 := hide (show ∀ j, F' j → F j ∨ W.heap.size ≤ j from fun j hj => (hf2 j hj).imp id (fun h => Nat.le_trans HB1.out.size h))
  obtain ⟨Ek, Et, Ec, hq2, u1, u2, u3⟩ := hp2
  have U1 := hide u1
  have U2 := hide u2
  have U3 := hide u3
  have HSay := hide (says_any hq2)
  clear hl2 hk2 hf2 hq2 u1 u2 u3 c0 d2 d3
  go_wp2_with fail
  refine HSay.out.mono ?_
  rintro e w3 ⟨rfl, hp3, hk3⟩
  have HQ3 := hide hp3
  have HK3 := hide (HK2.out.trans hk3 (fun j hj => .inl (.inl (.inl hj))))
  have c6 : w3.cell? ⟨s.bs, 6, none⟩ = some (.map (some s.bc)) := hp3.st.cell 6
  clear hp3 hk3 HSay
  have hr3 : W.heap.size ≤ w3.heap.size := HK3.out.size
  go_upto_block 1 with (at_range; refine wpList_range_own _ rfl _ 157 rfl 3 209 (Maps.int_keyed Tryz.underlying3) Tryz.underlying157 pgR s.bc (d.logged T).q Ec rfl HQ3.out.change ?_; intro w4 hrg4 hg4 hs4; have HRg4 := hide hrg4; have HG4 := hide hg4; have HS4 := hide hs4; clear hrg4 hg4 hs4)
  have HRes1 := hide (show d.committed ks = { d.logged T with q := (d.logged T).q + ks.length, kp := mixK (d.logged T) (fun _ => false), dt := mixT (d.logged T) (fun _ => false), ch := fun _ => none } from HRes.out)
  have hq1 : (d.logged T).q ≤ 90000 := hq
  have HRi1 := hide (show Rising (d.logged T).ch ks from HRi.out)
  have HQ3' := hide (show PSv w3 s F' (d.logged T) from ⟨_, _, _, HQ3.out, U1.out, U2.out, U3.out⟩)
  have hsz3 : Maps.size Ec = ks.length := U3.out.size HQ3.out.change HRi.out
  have U3' := hide (show PgV Ec (d.logged T).ch from U3.out)
  have hlt3 := HQ3'.out.lts
  rw [hsz3] at HRg4
  clear c6 HQ3 U1 U2 U3 HRes HRi hsz3
  have hb4 : Below w3.heap.size w3 w4 := (Below.refl _ _).grown HG4.out (Nat.le_refl _) (fun k hk => by cases hk)
  have HB4 := hide hb4
  have HPS4 := hide (HQ3'.out.below hb4)
  have HNlt := hide (show ∀ k, F' k → k < w3.heap.size from HQ3'.out.nlt)
  clear hb4 HG4 HQ3'
  have hs4 := HS4.out
  have hz : ∀ w, (zeroValue 209).run Tryz.prog w = .ok (pgV (zeros 512)) w := fun w => by
    have := Tryz.zeroValue209 w
    rw [this, zpage]
    rfl
  have HZ := hide hz
  have HZb := hide (Tryz.zeroValue4)
  clear hz
  generalize hd1 : d.logged T = d1 at *
  clear hd1
  clear hs4
  generalize hr : w3.heap.size = r at *
  have HRe := hide hr
  clear hr
  have HS0 := hide (show CmR w4 w4 s F' d1 Ec r d1.q ks (Maps.has Ec) ks.length from ⟨⟨d1.q, Nat.le_refl _, by
    have := HPS4.out
    rw [mixK_all d1 U3'.out, mixT_all d1 U3'.out]
    exact this⟩, HRg4.out, fun kl h => h, Kp.refl _ _⟩)
  clear HRg4
  go_wp2_with fail
  go_loopw [7] (fun _ wr => ∃ left cnt, CmR w4 wr s F' d1 Ec r d1.q ks left cnt) (fun _ wr => wr.rangeLeft s.bc r)
  case atStart => exact ⟨_, _, HS0.out⟩
  case round =>
    obtain ⟨left, cnt, ⟨⟨q, hqb, hps⟩, hrg, hlf, hkp⟩⟩ := hrel
    have HPr := hide hps
    have HRg := hide hrg
    have HLf := hide hlf
    have HKp := hide hkp
    clear hps hrg hlf hkp
    go_wp2_with (at_next; refine wpList_next_ranges _ rfl _ rfl 3 (Maps.int_keyed Tryz.underlying3) pgR (Value.int .i64) pgV (fun key kl hkey => by obtain ⟨x, rfl, _⟩ := Maps.keyOf_int_inv Tryz.underlying3 hkey; exact ⟨x, rfl⟩) (fun v y hv => by obtain ⟨xs, rfl, _⟩ := pgR_inv v y hv; exact ⟨xs, rfl⟩) s.bc r d1.q Ec left cnt rfl HRg.out ?_ ?_)
    · intro h0 hl
      obtain rfl : left = fun _ => false := funext hl
      clear hl
      have HAb := hide (abort_any s F' _ wr HPr.out)
      go_wp2_with fail
      refine HAb.out.mono ?_
      rintro e w9 ⟨rfl, hp9, hk9⟩
      have HP9 := hide (PSv.monoq (q := d1.q + ks.length) hp9 (by show q ≤ _; omega))
      have HK9 := hide hk9
      clear hp9 hk9 HAb
      go_wp2_with fail
      rw [← HR.out, HRes1.out]
      have hre := HRe.out
      have hb34 : Kp (AllF s F) w3 w4 := by
        have hb := HB4.out
        rw [← hre] at hb
        exact Kp.of_below hb
      refine ⟨rfl, F', HP9.out, ((HK3.out.same hb34).trans HKp.out (fun j hj => ?_)).trans HK9.out (fun j hj => .inl (.inl (.inr (.inr (.inr hj))))), HF2.out⟩
      rcases hj with h | h | h
      · exact .inl (.inl (.inr (.inl h)))
      · exact .inl (.inl (.inr (.inr (.inl h))))
      · exact .inr (by omega)
    · intro x c kl ya yb w5 cnt1 hkey hlk hv hat hrg1 hlt hg1 hs1' hen
      obtain ⟨i, rfl, hi, rfl, hci, hcl, hcb⟩ := U3'.out.entry hkey (HLf.out _ hlk) hv hat
      have HRg1 := hide hrg1
      have HLt := hide (show w5.rangeLeft s.bc r < wr.rangeLeft s.bc r by rw [hrg1.left_eq, HRg.out.left_eq]; exact hlt)
      have hk5 : Kp (OnlyF r) wr w5 := (Kp.refl _ _).grown hg1 (fun k hk => .inl (by cases hk; rfl))
      have hnr : ∀ j, OnlyF r j → j ≠ s.bs ∧ j ≠ s.bk ∧ j ≠ s.bt ∧ j ≠ s.bc ∧ j ≠ s.bl ∧ ¬ F' j := fun j hj => by
        have hj' : j = r := hj
        exact ⟨by omega, by omega, by omega, by omega, by omega, fun hf => by have := HNlt.out _ hf; omega⟩
      have HP5 := hide (HPr.out.kpx hk5 hnr)
      have HK5 := hide (HKp.out.trans hk5 (fun j hj => .inl (.inr (.inr hj))))
      have HMk := hide (mixK_step d1 left i c hci)
      have HMt := hide (mixT_step d1 left i c hci)
      have HFa := hide (page_facts hcl)
      have HCl := hide hcl
      have HCb := hide hcb
      have HLf1 := hide (show ∀ kl, (left kl && !kl.sameKey (.int .i64 (i : Int))) = true → Maps.has Ec kl = true from fun kl h => HLf.out kl (by rw [Bool.and_eq_true] at h; exact h.1))
      unfold pgV at hen
      have HW6 := hide (show Whole (w5.alloc (.cells (bv c).toArray 209)) w5.heap.size _ _ from Whole.new w5 (bv c) 209)
      have hb6 : Below w5.heap.size w5 (w5.alloc (.cells (bv c).toArray 209)) := (Below.refl _ _).alloc (Nat.le_refl _) _
      have HB6 := hide hb6
      have HS5 := hide hs1'
      clear hkey hlk hv hat hrg1 hg1 hk5 hci hcl hcb hb6 hnr hs1'
      go_upto_region 22 with (refine wpList_store_new w5 rfl 209 _ _ rfl Tryz.zeroCells209 (bv c).toArray rfl rfl HFa.out.1 HFa.out.2.1 HFa.out.2.2 ?_)
      have hb8 : w5.heap.size < (w5.alloc (.cells (bv c).toArray 209)).heap.size := by simp
      have HP6 := hide (HP5.out.below HB6.out)
      have HK6 := hide (HK5.out.same (Kp.of_below HB6.out))
      have hlt5 := HP5.out.lts
      have hl6 := HP6.out.lts
      have hrl : r < w5.heap.size := HRg1.out.lt
      have hb8e : w5.heap.size ≤ w5.heap.size := Nat.le_refl _
      generalize w5.alloc (.cells (bv c).toArray 209) = w6 at *
      generalize w5.heap.size = b8 at *
      have HI := hide (show (Tryz.prog.info? 209).map (·.size) = some (bv c).length from by rw [bv_len, HCl.out]; exact pageInfo)
      obtain ⟨Dk6, Dt6, Dc6, hp6, z1, z2, z3⟩ := HP6.out
      have Z1 := hide z1
      have Z2 := hide z2
      have Z3 := hide z3
      have HQ6 := hide hp6
      have hnm := hp6.nm
      have hns := hp6.ns
      have hn1 : ¬ TwoF s.bk s.bt s.bs := fun e => e.elim (fun h => hns.1 h.symm) (fun h => hns.2.1 h.symm)
      have hn8 : ¬ TwoF s.bk s.bt b8 := fun e => by unfold TwoF at e; omega
      have hkm : keyOf Tryz.prog 3 (.int .i64 (i : Int)) = some (.int .i64 (i : Int)) := Maps.keyOf_int_mk Tryz.underlying3 (WalkArith.wf_i64 (by omega))
      have HKm := hide hkm
      clear hp6 z1 z2 z3 hen hkm
      refine wp_region_held_drew (S := (fun w' => Kp (TwoF s.bk s.bt) w6 w')) (by kernel_rfl) ((Kp.refl _ _).drew) (fun hHeld => ?_)
      have HOk := hide (show w6.drew.ownsMap Tryz.prog 3 pgR s.bk q Dk6 from HQ6.out.kept.drew)
      have HOt := hide (show w6.drew.ownsMap Tryz.prog 3 (plainElem Tryz.prog 4) s.bt q Dt6 from HQ6.out.dirty.drew)
      generalize w6.drew = wd at *
      refine wpAnyH_take (i := 0) (v := ?vaq1) rfl (by kernel_rfl) (by kernel_rfl) (by kernel_rfl) (fun _ _ _ h => h) (Or.inl ⟨by rfl, ?haq1⟩) (by assumption) ?raq1
      case haq1 => (intro wq hSw; go_simp; (try with_reducible rfl))
      try simp only [Act.put, List.getElem_toArray, List.getElem_cons_zero, List.setIfInBounds_toArray, List.set_cons_zero, List.set_cons_succ]
      refine wpAnyH_take (i := 1) (v := ?vaq2) rfl (by kernel_rfl) (by kernel_rfl) (by kernel_rfl) (fun _ _ _ h => h) (Or.inl ⟨by rfl, ?haq2⟩) (by assumption) ?raq2
      case haq2 => (intro wq hSw; go_simp; (try with_reducible rfl))
      try simp only [Act.put, List.getElem_toArray, List.getElem_cons_zero, List.getElem_cons_succ, List.setIfInBounds_toArray, List.set_cons_zero, List.set_cons_succ]
      refine wpAnyH_take (i := 2) (v := ?vaq3) rfl (by kernel_rfl) (by kernel_rfl) (by kernel_rfl) (fun _ _ _ h => h) (Or.inl ⟨by rfl, ?haq3⟩) (by assumption) ?raq3
      case haq3 => (intro wq hSw; go_simp; (try with_reducible rfl))
      try simp only [Act.put, List.getElem_toArray, List.getElem_cons_zero, List.getElem_cons_succ, List.setIfInBounds_toArray, List.set_cons_zero, List.set_cons_succ]
      refine wpAnyH_take (i := 3) (v := ?vaq4) rfl (by kernel_rfl) (by kernel_rfl) (by kernel_rfl) (fun _ _ _ h => h) (Or.inl ⟨by rfl, ?haq4⟩) (by assumption) ?raq4
      case haq4 => (intro wq hSw; have hX := HQ6.out.st.kp hSw hn1; have e4 := hX.cell 4; have e5 := hX.cell 5; simp only [List.getElem?_cons_zero, List.getElem?_cons_succ] at e4 e5; go_simp; (try with_reducible rfl))
      try simp only [Act.put, List.getElem_toArray, List.getElem_cons_zero, List.getElem_cons_succ, List.setIfInBounds_toArray, List.set_cons_zero, List.set_cons_succ]
      refine wpAnyH_take (i := 4) (v := ?vaq5) rfl (by kernel_rfl) (by kernel_rfl) (by kernel_rfl) (fun _ _ _ h => h) (Or.inl ⟨by rfl, ?haq5⟩) (by assumption) ?raq5
      case haq5 => (intro wq hSw; go_simp; (try with_reducible rfl))
      try simp only [Act.put, List.getElem_toArray, List.getElem_cons_zero, List.getElem_cons_succ, List.setIfInBounds_toArray, List.set_cons_zero, List.set_cons_succ]
      refine wpAnyH_take (i := 5) (v := ?vaq6) rfl (by kernel_rfl) (by kernel_rfl) (by kernel_rfl) (fun _ _ _ h => h) (Or.inl ⟨by rfl, ?haq6⟩) (by assumption) ?raq6
      case haq6 => (intro wq hSw; go_simp; (try with_reducible rfl))
      try simp only [Act.put, List.getElem_toArray, List.getElem_cons_zero, List.getElem_cons_succ, List.setIfInBounds_toArray, List.set_cons_zero, List.set_cons_succ]
      refine wpAnyH_take (i := 6) (v := ?vaq7) rfl (by kernel_rfl) (by kernel_rfl) (by kernel_rfl) (fun _ _ _ h => h) (Or.inl ⟨by rfl, ?haq7⟩) (by assumption) ?raq7
      case haq7 => (intro wq hSw; go_simp; (try with_reducible rfl))
      try simp only [Act.put, List.getElem_toArray, List.getElem_cons_zero, List.getElem_cons_succ, List.setIfInBounds_toArray, List.set_cons_zero, List.set_cons_succ]
      refine wpAnyH_take (i := 7) (v := ?vaq8) rfl (by kernel_rfl) (by kernel_rfl) (by kernel_rfl) (fun _ _ _ h => h) (Or.inl ⟨by rfl, ?haq8⟩) (by assumption) ?raq8
      case haq8 => (intro wq hSw; go_simp; (try with_reducible rfl))
      try simp only [Act.put, List.getElem_toArray, List.getElem_cons_zero, List.getElem_cons_succ, List.setIfInBounds_toArray, List.set_cons_zero, List.set_cons_succ]
      refine wpAnyH_take (i := 8) (v := ?vaq9) rfl (by kernel_rfl) (by kernel_rfl) (by kernel_rfl) (fun _ _ _ h => h) (Or.inl ⟨by rfl, ?haq9⟩) (by assumption) ?raq9
      case haq9 => (intro wq hSw; have hX := HQ6.out.st.kp hSw hn1; have e4 := hX.cell 4; have e5 := hX.cell 5; simp only [List.getElem?_cons_zero, List.getElem?_cons_succ] at e4 e5; go_simp; (try with_reducible rfl))
      try simp only [Act.put, List.getElem_toArray, List.getElem_cons_zero, List.getElem_cons_succ, List.setIfInBounds_toArray, List.set_cons_zero, List.set_cons_succ]
      refine wpAnyH_take (i := 9) (v := ?vaq10) rfl (by kernel_rfl) (by kernel_rfl) (by kernel_rfl) (fun _ _ _ h => h) (Or.inl ⟨by rfl, ?haq10⟩) (by assumption) ?raq10
      case haq10 => (intro wq hSw; go_simp; (try with_reducible rfl))
      try simp only [Act.put, List.getElem_toArray, List.getElem_cons_zero, List.getElem_cons_succ, List.setIfInBounds_toArray, List.set_cons_zero, List.set_cons_succ]
      refine wpAnyH_take (i := 10) (v := .agg (bv c).toArray) rfl (by kernel_rfl) (by kernel_rfl) (by kernel_rfl) (fun _ _ _ h => h) (Or.inl ⟨by rfl, ?haq11⟩) (by assumption) ?raq11
      case haq11 => (exact fun wq hSw => exec_load_mid wq 209 _ rfl b8 0 rfl (bv c) _ (HW6.out.kp hSw hn8).range Tryz.underlying209 rfl HI.out)
      try simp only [Act.put, List.getElem_toArray, List.getElem_cons_zero, List.getElem_cons_succ, List.setIfInBounds_toArray, List.set_cons_zero, List.set_cons_succ]
      refine wpAnyH_ready (rs := [11]) (by kernel_rfl) (by simp) ?_
      refine AllReadyH.cons (o := _) rfl (fun K hK => ?_) ?_
      · skip
        obtain ⟨vk, sk, esk, ckk, hrun, hbn, hst⟩ := own_entry HOk.out (Maps.int_keyed Tryz.underlying3) Tryz.underlying157 HZ.out (by unfold maxLen; omega) HKm.out
        have HSk := hide hst
        have hk := kp_setB (w := wd) s.bk (.map esk ckk)
        clear hst
        go_simp
        generalize setBlock wd s.bk (.map esk ckk) = wy1 at *
        have HBk := hide hbn
        have HOt := hide (own_same HOt.out (hk.block s.bt HOt.out.lt (fun e => hnm.1 e.symm)))
        have hHy := hHeld.same (hk.mono (G := TwoF s.bk s.bt) (fun j hj => .inl (.inl hj)))
        refine hK.out _ _ (hHy) (fun hHeld => ?_)
        clear hK K hrun hbn hk
        try simp only [Act.put, List.getElem_toArray, List.getElem_cons_zero, List.getElem_cons_succ, List.setIfInBounds_toArray, List.set_cons_zero, List.set_cons_succ]
        refine wpAnyH_take (i := 12) (v := ?vaq12) rfl (by kernel_rfl) (by kernel_rfl) (by kernel_rfl) (fun _ _ _ h => h) (Or.inl ⟨by rfl, ?haq12⟩) (by assumption) ?raq12
        case haq12 => (intro wq hSw; go_simp; (try with_reducible rfl))
        try simp only [Act.put, List.getElem_toArray, List.getElem_cons_zero, List.getElem_cons_succ, List.setIfInBounds_toArray, List.set_cons_zero, List.set_cons_succ]
        refine wpAnyH_ready (rs := [13]) (by kernel_rfl) (by simp) ?_
        refine AllReadyH.cons (o := _) rfl (fun K hK => ?_) ?_
        · skip
          obtain ⟨ok, hrun, hown⟩ := HSk.out wy1 (.agg (bv c).toArray) (pgD c) [] HBk.out (pgR_val c HCl.out)
          have hk := kp_setB (w := wy1) s.bk ok
          go_simp
          generalize setBlock wy1 s.bk ok = wy2 at *
          have HOk := hide hown
          have HOt := hide (own_same HOt.out (hk.block s.bt HOt.out.lt (fun e => hnm.1 e.symm)))
          have hHy := hHeld.same (hk.mono (G := TwoF s.bk s.bt) (fun j hj => .inl (.inl hj)))
          refine hK.out _ _ (hHy) (fun hHeld => ?_)
          clear hK K hrun hown hk
          try simp only [Act.put, List.getElem_toArray, List.getElem_cons_zero, List.getElem_cons_succ, List.setIfInBounds_toArray, List.set_cons_zero, List.set_cons_succ]
          refine wpAnyH_ready (rs := [14]) (by kernel_rfl) (by simp) ?_
          refine AllReadyH.cons (o := _) rfl (fun K hK => ?_) ?_
          · skip
            obtain ⟨vt, st, est, ckt, hrun, hbn, hst⟩ := own_entry HOt.out (Maps.int_keyed Tryz.underlying3) Tryz.underlying158 HZb.out (by unfold maxLen; omega) HKm.out
            have HSt := hide hst
            have hk := kp_setB (w := wy2) s.bt (.map est ckt)
            clear hst
            go_simp
            generalize setBlock wy2 s.bt (.map est ckt) = wy3 at *
            have HBt := hide hbn
            have HOk := hide (own_same HOk.out (hk.block s.bk HOk.out.lt (fun e => hnm.1 e)))
            have hHy := hHeld.same (hk.mono (G := TwoF s.bk s.bt) (fun j hj => .inl (.inr hj)))
            refine hK.out _ _ (hHy) (fun hHeld => ?_)
            clear hK K hrun hbn hk
            try simp only [Act.put, List.getElem_toArray, List.getElem_cons_zero, List.getElem_cons_succ, List.setIfInBounds_toArray, List.set_cons_zero, List.set_cons_succ]
            refine wpAnyH_take (i := 15) (v := ?vaq13) rfl (by kernel_rfl) (by kernel_rfl) (by kernel_rfl) (fun _ _ _ h => h) (Or.inl ⟨by rfl, ?haq13⟩) (by assumption) ?raq13
            case haq13 => (intro wq hSw; go_simp; (try with_reducible rfl))
            try simp only [Act.put, List.getElem_toArray, List.getElem_cons_zero, List.getElem_cons_succ, List.setIfInBounds_toArray, List.set_cons_zero, List.set_cons_succ]
            refine wpAnyH_ready (rs := [16]) (by kernel_rfl) (by simp) ?_
            refine AllReadyH.cons (o := _) rfl (fun K hK => ?_) ?_
            · skip
              obtain ⟨ot, hrun, hown⟩ := HSt.out wy3 (.bool true) (.lit (.bool true)) [] HBt.out (plainElem_bool Tryz.underlying4 true)
              have hk := kp_setB (w := wy3) s.bt ot
              go_simp
              generalize setBlock wy3 s.bt ot = wy4 at *
              have HOt := hide hown
              have HOk := hide (own_same HOk.out (hk.block s.bk HOk.out.lt (fun e => hnm.1 e)))
              have hHy := hHeld.same (hk.mono (G := TwoF s.bk s.bt) (fun j hj => .inl (.inr hj)))
              refine hK.out _ _ (hHy) (fun hHeld => ?_)
              clear hK K hrun hown hk
              try simp only [Act.put, List.getElem_toArray, List.getElem_cons_zero, List.getElem_cons_succ, List.setIfInBounds_toArray, List.set_cons_zero, List.set_cons_succ]
              refine wpAnyH_done (by kernel_rfl) ?_ _
              obtain ⟨wz, hwz⟩ : ∃ wz, wz = wy4 := ⟨_, rfl⟩
              rw [← hwz] at hHeld HOk HOt ⊢
              have hps := HQ6.out.turn hHeld (fun k hk => hk.elim .inl (fun h => .inr (.inl h))) HOk.out HOt.out ((owns_kp HQ6.out.change hHeld (fun e => e.elim (fun h => hnm.2.1 h.symm) (fun h => hnm.2.2 h.symm))).mono (Nat.le_succ _))
              have hpk := Z1.out.put HQ6.out.kept.isMap i c hi HCl.out HCb.out
              have hpt := Z2.out.put HQ6.out.dirty.isMap i hi (.lit (.bool true))
              have hmk := HMk.out
              have hmt := HMt.out
              dsimp only at hpk hpt
              rw [← hmk] at hpk
              rw [← hmt] at hpt
              have hbz := (hHeld.block s.bc (by omega) (fun e => e.elim (fun h => hnm.2.1 h.symm) (fun h => hnm.2.2 h.symm))).trans (HB6.out.block s.bc (by omega))
              have hrz := (hHeld.block r (by omega) (fun e => by unfold TwoF at e; omega)).trans (HB6.out.block r hrl)
              have hrg := ranges_same HRg1.out hbz hrz
              have HCm := hide (show CmR w4 wz s F' d1 Ec r d1.q ks (fun z => left z && !z.sameKey (.int .i64 (i : Int))) cnt1 from ⟨⟨q + 1, by omega, _, _, Dc6, hps, hpk, hpt, Z3.out⟩, hrg, HLf1.out, HK6.out.trans hHeld (fun j hj => .inl (hj.elim .inl (fun h => .inr (.inl h))))⟩)
              have HMs := hide (show wz.rangeLeft s.bc r < wr.rangeLeft s.bc r by rw [hrg.left_eq, ← HRg1.out.left_eq]; exact HLt.out)
              clear hps hpk hpt hmk hmt hbz hrz hrg hHeld hwz
              go_wp2_with fail
              go_roundw
              case rel => exact ⟨_, _, HCm.out⟩
              case measure => exact HMs.out
            exact AllReadyH.nil
          exact AllReadyH.nil
        exact AllReadyH.nil
      exact AllReadyH.nil
end Go.Proofs.YtnnfiicmplkakaaGreatDoor
