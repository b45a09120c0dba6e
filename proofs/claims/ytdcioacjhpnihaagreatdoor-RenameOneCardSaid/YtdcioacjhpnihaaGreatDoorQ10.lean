/- Walk of (*Store).Commit, given what it calls. Contracts at the seat: a commit, wal.next, sorted keys. DERIVED: THE SHELF's CONTRACTS AT THIS DUMP, IN PLAIN WORDS (tools/lay-plain.mjs out of 'YtdcioacjhpnihaaGreatDoorShelfV0.lean', which tools/lay-shelf.mjs wrote): THE SAME DECLARATIONS UNDER THE SAME NAMES: 'import', 'namespace', 'open', 'def', 'theorem' AND NOTHING ELSE: no command of the shelf's: FOR A HAND-IN. Each laying: the table of numbers ('.._ren') and one theorem, a field a fact of the dump's own or the kernel's comparison; each contract: ONE APPLICATION. -/
import Derived.Test.YtdcioacjhpnihaaGreatDoorQ9
import Derived.Test.YtdcioacjhpnihaaGreatDoorProg
import Derived.Deep.DeepCutAuto
import Derived.Deep.QuietTactic
import Derived.BigQuiet
import Derived.WalkMore
import Derived.ProofKit
import Derived.Carry
import Derived.ChangeSame
import Derived.Deep.AppendLies
import Derived.Deep.DeepHandedRow
import Derived.Deep.WholeRow
import Derived.Laws.Bits64b
import Derived.Laws.Closers25b
import Derived.Laws.Cover3
import Derived.Laws.OwnMore
import Derived.Laws.ResultCell
import Derived.Laws.ShiftsVarLaws
import Derived.IntWalk
import Derived.LoopNIn
import Derived.Maps.OwnSet
import Derived.OpenShut
import Derived.WalkKit
import Derived.Tactics
import Derived.LoopIn
import Derived.Deep.CutBlock
import Derived.Deep.Cut
import Derived.Shelf.SlIterI.Sorted
import Derived.Shelf.SortM.Plain
import Derived.Shelf.SortM.SortNone
import Derived.Shelf.Strings.Repeat
import Derived.Shelf.Strings.OnBuilder
import Derived.Ground.NamesProg
import Derived.Shelf.SlIterI.Nil
import Derived.Ground.GgzProg
import Derived.Ground.SlgmProg
import Derived.Shelf.Spec.SlicesInsert
import Derived.Shelf.Spec.SlicesInsertGrow
import Derived.Ground.Names2Prog
set_option linter.all false
namespace Go.Proofs.YtdcioacjhpnihaaGreatDoor
open Go Go.RowKit Go.Maps Go.ChangeMaps

/-- a store of a whole row into a block that is new -/
theorem wpList_store_new {P : Program} {ops : Array Oper} {rest : List Oper} {op : Oper} {a : Act} {Q : Exit → Act → World → Prop} (w : World) (hgd : op.guard = none) (ty : TypeId) (x y : Operand) (ho : op.op = .store ty x y)
    (c c' : Array Value) (hx : a.eval x = .pointer (some ⟨w.heap.size, 0, none⟩)) (hy : a.eval y = .agg c') (hi : (P.info? ty).map (·.size) = some c'.size) (hs : c.size = c'.size) (h1 : c'.all (·.oneCell') = true)
    (h : wpList P ops Q rest (a.put op.dst undef) (w.alloc (.cells c' ty))) : wpList P ops Q (op :: rest) a (w.alloc (.cells c ty)) := by
  refine wpList_plain hgd fun K hK => ?_
  unfold Oper.wp execOp
  simp only [ho, hx, hy, run_storeAt_new (P := P) w ty c c' hi hs h1, Sem.run_bind, Sem.run_pure, Result.andThen_ok]
  exact hK _ _ h
theorem zpage_rep : Tryz.zeroCells344 = Array.replicate 512 (.int .u8 0) := by kernel_rfl
theorem pageInfo : (Tryz.prog.info? 344).map (·.size) = some 512 := by kernel_rfl
theorem page_facts {xs : List Int} (hl : xs.length = 512) : (Tryz.prog.info? 344).map (·.size) = some (bv xs).toArray.size ∧ Tryz.zeroCells344.size = (bv xs).toArray.size ∧ (bv xs).toArray.all (·.oneCell') = true := by
  have hbl : (bv xs).toArray.size = 512 := by rw [List.size_toArray, bv_len, hl]
  exact ⟨by rw [hbl]; exact pageInfo, by rw [zpage_rep, Array.size_replicate, hbl], all_oneCell_toArray (bv_one xs)⟩
def cF : CF := ⟨192, 193, 127, 194, 196, 191, 48⟩
def CommitQ (C : Cfg) (ι : Emb) (s : AS) (w : World) (s8 : AS) (e : Ending) (w' : World) : Prop := AnsQ Tryz.prog C ι s w (i64 0) s8 e w'
set_option maxHeartbeats 4000000 in
set_option maxRecDepth 20000 in
theorem commit_walk {C : Cfg} {run : RUN} (hrun : ∀ f args s v s', run f args s = some (v, s') → AnsOk Tryz.prog C f args s v s') {k kl kk kt kc n m m2 Z : Nat} {T : Value} {s s1 s2 s3 s4 s5 s6 s7 s8 : AS} (R : CommitRun run cF k s s8 kl kk kt kc T Z n m m2 s1 s2 s3 s4 s5 s6 s7)
    {ι : Emb} {w : World} (hr : Rep Tryz.prog C.G ι s.mem w) {b bl bk bt bc : Nat} (hN : StN ι k kl kk kt kc b bl bk bt bc) : Calls Tryz.prog 107 #[.pointer (some ⟨b, 0, none⟩)] w (CommitQ C ι s w s8) := by
  have HR := hide R
  have HN := hide hN
  have HRep := hide hr
  have hst := R.st0.at hr hN
  have c6 := hst.c6
  have c7 := hst.c7
  obtain ⟨e0, lc0, z0, a0, b0, hu0, hne0, hl0⟩ := R.ne
  obtain ⟨_, q0, es0, ck0, hq0, hw0, hum0⟩ := umapOf_rep hr hu0
  have hqe : q0 = bc := by have := hN.kc; rw [hq0] at this; cases this; rfl
  subst hqe
  have hlen := len_map (ty := 3) hw0 Tryz.underlying237
  have hes : es0.size ≠ 0 := fun h0 => by
    obtain ⟨es', c', he, ⟨mm, p1, p2⟩, _⟩ := hum0
    cases he
    have h1 := prR.len p2
    have h2 : mm.length = es0.size := by rw [p1.length_eq, Array.length_toList]
    exact hne0 (List.eq_nil_of_length_eq_zero (by have : lc0.length = mm.length := h1; omega))
  have hz0 : ((es0.size : Int) == 0) = false := by rw [beq_eq_false_iff_ne]; omega
  have HTxt := hide (ans_pt (hrun _ _ _ _ _ R.text) R.txt hr hN.k)
  generalize hQ : CommitQ C ι s w s8 = Q
  have HQ := hide hQ
  clear hst hu0 hne0 hl0 hq0 hw0 hum0 hes R hr hQ
  go_enter Tryz.func107, Tryz.ntmps107
  go_wp2_with fail
  refine HTxt.out.mono ?_
  rintro e w1 ⟨t, rfl, hts, ι1, ht1, hvt⟩
  have HT1 := hide ht1
  have HV1 := hide hvt
  have HN1 := hide (HN.out.le ht1.le)
  have HNd := hide (show Calls _ _ #[.int .i64 (t.size : Int)] _ (AnsQ Tryz.prog C ι1 s1 w1 (.int .i64 (n : Int)) s2) from by rw [hts]; exact ans_i (hrun _ _ _ _ _ HR.out.need) rfl rfl ht1.rep)
  clear ht1 HTxt hlen c6 c7 hts hvt
  go_wp2_with fail
  refine HNd.out.mono ?_
  rintro e w2 ⟨rfl, ι2, ht2⟩
  have HT2 := hide (HT1.out.trans ht2)
  have HV2 := hide (HV1.out.mono ht2.le)
  have HN2 := hide (HN1.out.le ht2.le)
  have HSc := hide (show Calls _ _ _ _ (AnsQ Tryz.prog C ι2 s2 w2 (.int .i64 (m : Int)) s3) from ans_p (hrun _ _ _ _ _ HR.out.sectors) rfl ht2.rep (HN1.out.le ht2.le).kl)
  have c0 := (HR.out.st2.at ht2.rep (HN1.out.le ht2.le)).c0
  clear ht2 HNd
  have d2 : decide (m < n) = false := by
    have := HR.out.le
    simp
    omega
  have d3 : decide (m2 < n) = false := by
    have := HR.out.le2
    simp
    omega
  go_wp2_with fail
  refine HSc.out.mono ?_
  rintro e w3 ⟨rfl, ι3, ht3⟩
  have HT3 := hide (HT2.out.trans ht3)
  have HV3 := hide (HV2.out.mono ht3.le)
  have HN3 := hide (HN2.out.le ht3.le)
  have HLe := hide (show Calls _ _ _ _ (AnsQ Tryz.prog C ι3 s3 w3 (.int .i64 (m2 : Int)) s4) from ans_p (hrun _ _ _ _ _ HR.out.left) rfl ht3.rep (HN2.out.le ht3.le).kl)
  have c0 := (HR.out.st3.at ht3.rep (HN2.out.le ht3.le)).c0
  clear ht3 HSc
  go_wp2_with fail
  refine HLe.out.mono ?_
  rintro e w4 ⟨rfl, ι4, ht4⟩
  have HT4 := hide (HT3.out.trans ht4)
  have HV4 := hide (HV3.out.mono ht4.le)
  have HN4 := hide (HN3.out.le ht4.le)
  have HCo := hide (show Calls _ _ #[_, .string t] _ (AnsQ Tryz.prog C ι4 s4 w4 (.int .i64 0) s5) from ans_pv (hrun _ _ _ _ _ HR.out.commit) HV4.out rfl ht4.rep (HN3.out.le ht4.le).kl)
  have c0 := (HR.out.st4.at ht4.rep (HN3.out.le ht4.le)).c0
  clear ht4 HLe
  go_wp2_with fail
  refine HCo.out.mono ?_
  rintro e w5 ⟨rfl, ι5, ht5⟩
  have HT5 := hide (HT4.out.trans ht5)
  have HN5 := hide (HN4.out.le ht5.le)
  have HSa := hide (show Calls _ _ #[_, .int .i64 0] _ (AnsQ Tryz.prog C ι5 s5 w5 (.int .i64 0) s6) from ans_pu (hrun _ _ _ _ _ HR.out.says) rfl rfl ht5.rep (HN4.out.le ht5.le).k)
  clear ht5 HCo c0 d2 d3
  go_wp2_with fail
  refine HSa.out.mono ?_
  rintro e w6 ⟨rfl, ι6, ht6⟩
  have HT6 := hide (HT5.out.trans ht6)
  have HN6 := hide (HN5.out.le ht6.le)
  have HSt := hide (HR.out.st6.at ht6.rep (HN5.out.le ht6.le))
  have c6 := HSt.out.c6
  obtain ⟨fk, fd, fc, Dc, nc, ⟨g1, g2, g3⟩, hm3, hmer⟩ := mergeM_ok (tI := 3) Tryz.underlying3 ht6.rep HR.out.merge HR.out.pages HN6.out.kk HN6.out.kt HN6.out.kc
  have gk : s6.mem.get k ≠ none := by
    obtain ⟨_, _, _, _, _, h⟩ := HR.out.st6
    show s6.h.get k ≠ none
    rw [h]
    exact fun e => by cases e
  have HNe := hide (show b ≠ bk ∧ b ≠ bt ∧ b ≠ q0 from ⟨fun e => HR.out.dif.1 (ht6.rep.inj k kk b gk g1 HN6.out.k (e ▸ HN6.out.kk)), fun e => HR.out.dif.2.1 (ht6.rep.inj k kt b gk g2 HN6.out.k (e ▸ HN6.out.kt)), fun e => HR.out.dif.2.2 (ht6.rep.inj k kc b gk g3 HN6.out.k (e ▸ HN6.out.kc))⟩)
  have HM := hide hm3
  have HMer := hide hmer
  clear ht6 HSa hm3 hmer g1 g2 g3 gk
  go_upto_block 1 with (at_range; refine wpList_range_own _ rfl _ 237 rfl 3 344 (Maps.int_keyed Tryz.underlying3) Tryz.underlying237 RV q0 nc Dc rfl HM.out.change ?_; intro w7 hrg hg hs7; have HRg := hide hrg; have HG := hide hg; clear hrg hg hs7)
  have hk7 : Kp (fun _ => False) w6 w7 := (Kp.refl _ _).grown HG.out (fun k hk => by cases hk)
  have HK7 := hide hk7
  have HS7 := hide (HSt.out.kp hk7 (fun h => h))
  have hfull : ∀ x, (fc x).isSome = true → Maps.has Dc (.int .i64 x) = true := fun x hx => by rw [HM.out.changeF.has]; exact hx
  have htrue : ∀ x, (trueF fc x).isSome = true → Maps.has Dc (.int .i64 x) = true := fun x hx => hfull x (by unfold trueF at hx; simpa using hx)
  obtain ⟨Dk, ok1, ok2⟩ := HM.out.kept
  obtain ⟨Dt, ot1, ot2⟩ := HM.out.dirty
  have HNc := hide HM.out.nc
  have HL0 := hide (show LoopI Tryz.prog 3 w7 w7 bk bt q0 w6.heap.size fc fk fd Dc nc 20000 (Maps.has Dc) nc from ⟨⟨10000, Dk, by have := HNc.out; omega, own_same ok1 (hk7.block bk ok1.lt (fun h => h)), by rw [mixF_all hfull]; exact ok2⟩, ⟨10000, Dt, by have := HNc.out; omega, own_same ot1 (hk7.block bt ot1.lt (fun h => h)), by rw [mixF_all htrue]; exact ot2⟩, by have := HRg.out; rwa [HM.out.size] at this, fun kl h => h, Kp.refl _ _⟩)
  have hlts := And.intro HSt.out.lt (And.intro ok1.lt (And.intro ot1.lt HM.out.change.lt))
  have HLt := hide hlts
  have hsz7 : w6.heap.size ≤ w7.heap.size := hk7.size
  have hz : ∀ w, (zeroValue 344).run Tryz.prog w = .ok (.agg Tryz.zeroCells344) w := fun w => Tryz.zeroValue344 w
  have HZ := hide hz
  have HZb := hide (Tryz.zeroValue4)
  clear hz hfull htrue ok1 ok2 ot1 ot2 hk7 c6 HRg HG hlts
  generalize hrr : w6.heap.size = r at *
  have HRe := hide hrr
  clear hrr
  go_wp2_with fail
  go_frame
  go_loopw [7] (fun _ wr => ∃ left cnt, LoopI Tryz.prog 3 w7 wr bk bt q0 r fc fk fd Dc nc 20000 left cnt) (fun _ wr => wr.rangeLeft q0 r)
  case atStart => exact ⟨_, _, HL0.out⟩
  case round =>
    obtain ⟨left, cnt, hli⟩ := hrel
    have HLi := hide hli
    have hrg0 := hli.rg
    clear hli
    go_wp2_with (at_next; refine wpList_next_ranges _ rfl _ rfl 3 (Maps.int_keyed Tryz.underlying3) RV (Value.int .i64) (fun v : Value => v) (fun key kl hkey => by obtain ⟨x, rfl, _⟩ := Maps.keyOf_int_inv Tryz.underlying3 hkey; exact ⟨x, rfl⟩) (fun v y hv => ⟨v, rfl⟩) q0 r nc Dc left cnt rfl hrg0 ?_ ?_)
    · intro h0 hl
      obtain rfl : left = fun _ => false := funext hl
      have htr := HMer.out wr ((HK7.out.mono (G := fun k => k = bk ∨ k = bt) (fun i h => h.elim)).trans HLi.out.kp (fun i hi => hi.elim (fun h => .inl (.inl h)) (fun h => h.elim (fun h => .inl (.inr h)) (fun h => .inr (by have := HRe.out; omega))))) (by obtain ⟨q, D, _, h1, h2⟩ := HLi.out.kept; exact ⟨q, D, h1, h2⟩) (by obtain ⟨q, D, _, h1, h2⟩ := HLi.out.dirty; exact ⟨q, D, h1, h2⟩)
      have HT7 := hide (HT6.out.trans htr)
      have HAb := hide (ans_p (hrun _ _ _ _ _ HR.out.abort) (by simp [flat]) htr.rep HN6.out.k)
      clear hl h0 htr hrg0
      go_wp2_with fail
      refine HAb.out.mono ?_
      rintro e w9 ⟨rfl, ι9, ht9⟩
      have HT9 := hide (HT7.out.trans ht9)
      clear ht9 HAb
      go_wp2_with fail
      rw [← HQ.out]
      exact ⟨rfl, ι9, HT9.out⟩
    · intro x c kl ya yb w5 cnt1 hkey hlk hv hat hrg1 hlt hg1 hs1' hen
      obtain ⟨rfl, hfc⟩ := entry_of Tryz.underlying3 HM.out.changeF hkey (HLi.out.lf _ hlk) hv hat
      obtain ⟨hx, xs, rfl, hxl, hxb⟩ := HM.out.page x c hfc
      have HRg1 := hide hrg1
      have HLt1 := hide (show w5.rangeLeft q0 r < wr.rangeLeft q0 r by rw [hrg1.left_eq, hrg0.left_eq]; exact hlt)
      have HCn := hide hlt
      have hk5 : Kp (OnlyF r) wr w5 := (Kp.refl _ _).grown hg1 (fun k hk => .inl (by cases hk; rfl))
      obtain ⟨b1, b2, b3, b4⟩ := HLt.out
      obtain ⟨n1, n2, n3⟩ := HNe.out
      obtain ⟨m1, m2', m3⟩ := HM.out.dif
      have hre := HRe.out
      have hkl := HLi.out.kp
      have hS5 : StW w5 b bl bk bt q0 := (HS7.out.kp hkl (fun e => e.elim n1 (fun e => e.elim n2 (fun e => by omega)))).kp hk5 (fun e => by have e' : b = r := e; omega)
      have HS5 := hide hS5
      obtain ⟨qk, Dk, lk1, lk2, lk3⟩ := HLi.out.kept
      obtain ⟨qt, Dt, lt1, lt2, lt3⟩ := HLi.out.dirty
      have HK5 := hide (own_same lk2 (hk5.block bk lk2.lt (fun e => by have e' : bk = r := e; omega)))
      have HD5 := hide (own_same lt2 (hk5.block bt lt2.lt (fun e => by have e' : bt = r := e; omega)))
      have HKq := hide lk1
      have HDq := hide lt1
      have HKf := hide lk3
      have HDf := hide lt3
      have HKp5 := hide (hkl.trans hk5 (fun j hj => .inl (.inr (.inr hj))))
      have HMk := hide (mixF_step (fk := fk) (left := left) hfc)
      have HMt := hide (mixF_step (fc := trueF fc) (fk := fd) (left := left) (x := x) (v := .bool true) (by unfold trueF; rw [hfc]; rfl))
      have HFa := hide (page_facts hxl)
      have HXl := hide hxl
      have HX := hide hx
      have HLf := hide (show ∀ kl, (left kl && !kl.sameKey (.int .i64 x)) = true → Maps.has Dc kl = true from fun kl h => HLi.out.lf kl (by rw [Bool.and_eq_true] at h; exact h.1))
      unfold pgV at hen
      have HW6 := hide (show Whole (w5.alloc (.cells (bv xs).toArray 344)) w5.heap.size _ _ from Whole.new w5 (bv xs) 344)
      have hb6 : Below w5.heap.size w5 (w5.alloc (.cells (bv xs).toArray 344)) := (Below.refl _ _).alloc (Nat.le_refl _) _
      have HB6 := hide hb6
      have hrl : r < w5.heap.size := hrg1.lt
      have hb5 : b < w5.heap.size := hS5.lt
      have hbk5 := HK5.out.lt
      have hbt5 := HD5.out.lt
      have hq5 : q0 < w5.heap.size := hrg1.owns.lt
      clear hkey hlk hv hat hrg1 hlt hg1 hk5 hb6 hs1' hfc hxl hxb hkl hS5 lk1 lk2 lk3 lt1 lt2 lt3 hrg0 HLi
      go_upto_region 22 with (refine wpList_store_new w5 rfl 344 _ _ rfl Tryz.zeroCells344 (bv xs).toArray rfl rfl HFa.out.1 HFa.out.2.1 HFa.out.2.2 ?_)
      have hb8 : w5.heap.size < (w5.alloc (.cells (bv xs).toArray 344)).heap.size := by simp
      have HS6 := hide (HS5.out.kp (Kp.of_below (F := fun _ => False) HB6.out) (fun h => h))
      have HK1 := hide (own_same HK5.out (HB6.out.block bk hbk5))
      have HD1 := hide (own_same HD5.out (HB6.out.block bt hbt5))
      have HK6 := hide (HKp5.out.same (Kp.of_below HB6.out))
      have HI := hide (show (Tryz.prog.info? 344).map (·.size) = some (bv xs).length from by rw [bv_len, HXl.out]; exact pageInfo)
      generalize w5.alloc (.cells (bv xs).toArray 344) = wa at *
      generalize w5.heap.size = b8 at *
      have hn1 : ¬ TwoF bk bt b := fun e => e.elim n1 n2
      have hn8 : ¬ TwoF bk bt b8 := fun e => by unfold TwoF at e; omega
      have hnm : bk ≠ bt ∧ bk ≠ bt := ⟨m1, m1⟩
      have hkm : keyOf Tryz.prog 3 (.int .i64 x) = some (.int .i64 x) := Maps.keyOf_int_mk Tryz.underlying3 (WalkArith.wf_i64 (by omega))
      have HKm := hide hkm
      have hqk : qk ≤ 20000 := by have := HKq.out; omega
      have hqt : qt ≤ 20000 := by have := HDq.out; omega
      generalize hDk : Dk = Dk6 at *
      generalize hDt : Dt = Dt6 at *
      clear hen hkm
      refine wp_region_held_drew (S := (fun w' => Kp (TwoF bk bt) wa w')) (by kernel_rfl) ((Kp.refl _ _).drew) (fun hHeld => ?_)
      have HOk := hide (show wa.drew.ownsMap Tryz.prog 3 RV bk qk Dk6 from HK1.out.drew)
      have HOt := hide (show wa.drew.ownsMap Tryz.prog 3 RV bt qt Dt6 from HD1.out.drew)
      generalize wa.drew = wd at *
      refine wpAnyH_take (i := 0) (v := ?vaq1) rfl (by kernel_rfl) (by kernel_rfl) (by kernel_rfl) (fun _ _ _ h => h) (Or.inl ⟨by rfl, ?haq1⟩) (by assumption) ?raq1
      case haq1 => (intro wq hSw; go_simp; (try with_reducible rfl))
      try simp only [Act.put, List.getElem_toArray, List.getElem_cons_zero, List.setIfInBounds_toArray, List.set_cons_zero, List.set_cons_succ]
      refine wpAnyH_take (i := 1) (v := ?vaq2) rfl (by kernel_rfl) (by kernel_rfl) (by kernel_rfl) (fun _ _ _ h => h) (Or.inl ⟨by rfl, ?haq2⟩) (by assumption) ?raq2
      case haq2 => (intro wq hSw; go_simp; (try with_reducible rfl))
      try simp only [Act.put, List.getElem_toArray, List.getElem_cons_zero, List.getElem_cons_succ, List.setIfInBounds_toArray, List.set_cons_zero, List.set_cons_succ]
      refine wpAnyH_take (i := 2) (v := ?vaq3) rfl (by kernel_rfl) (by kernel_rfl) (by kernel_rfl) (fun _ _ _ h => h) (Or.inl ⟨by rfl, ?haq3⟩) (by assumption) ?raq3
      case haq3 => (intro wq hSw; go_simp; (try with_reducible rfl))
      try simp only [Act.put, List.getElem_toArray, List.getElem_cons_zero, List.getElem_cons_succ, List.setIfInBounds_toArray, List.set_cons_zero, List.set_cons_succ]
      refine wpAnyH_take (i := 3) (v := ?vaq4) rfl (by kernel_rfl) (by kernel_rfl) (by kernel_rfl) (fun _ _ _ h => h) (Or.inl ⟨by rfl, ?haq4⟩) (by assumption) ?raq4
      case haq4 => (intro wq hSw; have hX := HS6.out.kp hSw hn1; have e4 := hX.c4; have e5 := hX.c5; go_simp; (try with_reducible rfl))
      try simp only [Act.put, List.getElem_toArray, List.getElem_cons_zero, List.getElem_cons_succ, List.setIfInBounds_toArray, List.set_cons_zero, List.set_cons_succ]
      refine wpAnyH_take (i := 4) (v := ?vaq5) rfl (by kernel_rfl) (by kernel_rfl) (by kernel_rfl) (fun _ _ _ h => h) (Or.inl ⟨by rfl, ?haq5⟩) (by assumption) ?raq5
      case haq5 => (intro wq hSw; go_simp; (try with_reducible rfl))
      try simp only [Act.put, List.getElem_toArray, List.getElem_cons_zero, List.getElem_cons_succ, List.setIfInBounds_toArray, List.set_cons_zero, List.set_cons_succ]
      refine wpAnyH_take (i := 5) (v := ?vaq6) rfl (by kernel_rfl) (by kernel_rfl) (by kernel_rfl) (fun _ _ _ h => h) (Or.inl ⟨by rfl, ?haq6⟩) (by assumption) ?raq6
      case haq6 => (intro wq hSw; go_simp; (try with_reducible rfl))
      try simp only [Act.put, List.getElem_toArray, List.getElem_cons_zero, List.getElem_cons_succ, List.setIfInBounds_toArray, List.set_cons_zero, List.set_cons_succ]
      refine wpAnyH_take (i := 6) (v := ?vaq7) rfl (by kernel_rfl) (by kernel_rfl) (by kernel_rfl) (fun _ _ _ h => h) (Or.inl ⟨by rfl, ?haq7⟩) (by assumption) ?raq7
      case haq7 => (intro wq hSw; go_simp; (try with_reducible rfl))
      try simp only [Act.put, List.getElem_toArray, List.getElem_cons_zero, List.getElem_cons_succ, List.setIfInBounds_toArray, List.set_cons_zero, List.set_cons_succ]
      refine wpAnyH_take (i := 7) (v := ?vaq8) rfl (by kernel_rfl) (by kernel_rfl) (by kernel_rfl) (fun _ _ _ h => h) (Or.inl ⟨by rfl, ?haq8⟩) (by assumption) ?raq8
      case haq8 => (intro wq hSw; go_simp; (try with_reducible rfl))
      try simp only [Act.put, List.getElem_toArray, List.getElem_cons_zero, List.getElem_cons_succ, List.setIfInBounds_toArray, List.set_cons_zero, List.set_cons_succ]
      refine wpAnyH_take (i := 8) (v := ?vaq9) rfl (by kernel_rfl) (by kernel_rfl) (by kernel_rfl) (fun _ _ _ h => h) (Or.inl ⟨by rfl, ?haq9⟩) (by assumption) ?raq9
      case haq9 => (intro wq hSw; have hX := HS6.out.kp hSw hn1; have e4 := hX.c4; have e5 := hX.c5; go_simp; (try with_reducible rfl))
      try simp only [Act.put, List.getElem_toArray, List.getElem_cons_zero, List.getElem_cons_succ, List.setIfInBounds_toArray, List.set_cons_zero, List.set_cons_succ]
      refine wpAnyH_take (i := 9) (v := ?vaq10) rfl (by kernel_rfl) (by kernel_rfl) (by kernel_rfl) (fun _ _ _ h => h) (Or.inl ⟨by rfl, ?haq10⟩) (by assumption) ?raq10
      case haq10 => (intro wq hSw; go_simp; (try with_reducible rfl))
      try simp only [Act.put, List.getElem_toArray, List.getElem_cons_zero, List.getElem_cons_succ, List.setIfInBounds_toArray, List.set_cons_zero, List.set_cons_succ]
      refine wpAnyH_take (i := 10) (v := .agg (bv xs).toArray) rfl (by kernel_rfl) (by kernel_rfl) (by kernel_rfl) (fun _ _ _ h => h) (Or.inl ⟨by rfl, ?haq11⟩) (by assumption) ?raq11
      case haq11 => (exact fun wq hSw => exec_load_mid wq 344 _ rfl b8 0 rfl (bv xs) _ (HW6.out.kp hSw hn8).range Tryz.underlying344 rfl HI.out)
      try simp only [Act.put, List.getElem_toArray, List.getElem_cons_zero, List.getElem_cons_succ, List.setIfInBounds_toArray, List.set_cons_zero, List.set_cons_succ]
      refine wpAnyH_ready (rs := [11]) (by kernel_rfl) (by simp) ?_
      refine AllReadyH.cons (o := _) rfl (fun K hK => ?_) ?_
      · skip
        obtain ⟨vk, sk, esk, ckk, hrun, hbn, hst⟩ := own_entry HOk.out (Maps.int_keyed Tryz.underlying3) Tryz.underlying237 HZ.out (by unfold maxLen; omega) HKm.out
        have HSk := hide hst
        have hk := kp_setB (w := wd) bk (.map esk ckk)
        clear hst
        go_simp
        generalize setBlock wd bk (.map esk ckk) = wy1 at *
        have HBk := hide hbn
        have HOt := hide (own_same HOt.out (hk.block bt HOt.out.lt (fun e => hnm.1 e.symm)))
        have hHy := hHeld.same (hk.mono (G := TwoF bk bt) (fun j hj => .inl (.inl hj)))
        refine hK.out _ _ (hHy) (fun hHeld => ?_)
        clear hK K hrun hbn hk
        try simp only [Act.put, List.getElem_toArray, List.getElem_cons_zero, List.getElem_cons_succ, List.setIfInBounds_toArray, List.set_cons_zero, List.set_cons_succ]
        refine wpAnyH_take (i := 12) (v := ?vaq12) rfl (by kernel_rfl) (by kernel_rfl) (by kernel_rfl) (fun _ _ _ h => h) (Or.inl ⟨by rfl, ?haq12⟩) (by assumption) ?raq12
        case haq12 => (intro wq hSw; go_simp; (try with_reducible rfl))
        try simp only [Act.put, List.getElem_toArray, List.getElem_cons_zero, List.getElem_cons_succ, List.setIfInBounds_toArray, List.set_cons_zero, List.set_cons_succ]
        refine wpAnyH_ready (rs := [13]) (by kernel_rfl) (by simp) ?_
        refine AllReadyH.cons (o := _) rfl (fun K hK => ?_) ?_
        · skip
          obtain ⟨ok, hrun, hown⟩ := HSk.out wy1 (.agg (bv xs).toArray) (.held (pgV xs)) [] HBk.out rfl
          have hk := kp_setB (w := wy1) bk ok
          go_simp
          generalize setBlock wy1 bk ok = wy2 at *
          have HOk := hide hown
          have HOt := hide (own_same HOt.out (hk.block bt HOt.out.lt (fun e => hnm.1 e.symm)))
          have hHy := hHeld.same (hk.mono (G := TwoF bk bt) (fun j hj => .inl (.inl hj)))
          refine hK.out _ _ (hHy) (fun hHeld => ?_)
          clear hK K hrun hown hk
          try simp only [Act.put, List.getElem_toArray, List.getElem_cons_zero, List.getElem_cons_succ, List.setIfInBounds_toArray, List.set_cons_zero, List.set_cons_succ]
          refine wpAnyH_ready (rs := [14]) (by kernel_rfl) (by simp) ?_
          refine AllReadyH.cons (o := _) rfl (fun K hK => ?_) ?_
          · skip
            obtain ⟨vt, st, est, ckt, hrun, hbn, hst⟩ := own_entry HOt.out (Maps.int_keyed Tryz.underlying3) Tryz.underlying238 HZb.out (by unfold maxLen; omega) HKm.out
            have HSt := hide hst
            have hk := kp_setB (w := wy2) bt (.map est ckt)
            clear hst
            go_simp
            generalize setBlock wy2 bt (.map est ckt) = wy3 at *
            have HBt := hide hbn
            have HOk := hide (own_same HOk.out (hk.block bk HOk.out.lt (fun e => hnm.1 e)))
            have hHy := hHeld.same (hk.mono (G := TwoF bk bt) (fun j hj => .inl (.inr hj)))
            refine hK.out _ _ (hHy) (fun hHeld => ?_)
            clear hK K hrun hbn hk
            try simp only [Act.put, List.getElem_toArray, List.getElem_cons_zero, List.getElem_cons_succ, List.setIfInBounds_toArray, List.set_cons_zero, List.set_cons_succ]
            refine wpAnyH_take (i := 15) (v := ?vaq13) rfl (by kernel_rfl) (by kernel_rfl) (by kernel_rfl) (fun _ _ _ h => h) (Or.inl ⟨by rfl, ?haq13⟩) (by assumption) ?raq13
            case haq13 => (intro wq hSw; go_simp; (try with_reducible rfl))
            try simp only [Act.put, List.getElem_toArray, List.getElem_cons_zero, List.getElem_cons_succ, List.setIfInBounds_toArray, List.set_cons_zero, List.set_cons_succ]
            refine wpAnyH_ready (rs := [16]) (by kernel_rfl) (by simp) ?_
            refine AllReadyH.cons (o := _) rfl (fun K hK => ?_) ?_
            · skip
              obtain ⟨ot, hrun, hown⟩ := HSt.out wy3 (.bool true) (.held (.bool true)) [] HBt.out rfl
              have hk := kp_setB (w := wy3) bt ot
              go_simp
              generalize setBlock wy3 bt ot = wy4 at *
              have HOt := hide hown
              have HOk := hide (own_same HOk.out (hk.block bk HOk.out.lt (fun e => hnm.1 e)))
              have hHy := hHeld.same (hk.mono (G := TwoF bk bt) (fun j hj => .inl (.inr hj)))
              refine hK.out _ _ (hHy) (fun hHeld => ?_)
              clear hK K hrun hown hk
              try simp only [Act.put, List.getElem_toArray, List.getElem_cons_zero, List.getElem_cons_succ, List.setIfInBounds_toArray, List.set_cons_zero, List.set_cons_succ]
              refine wpAnyH_done (by kernel_rfl) ?_ _
              obtain ⟨wz, hwz⟩ : ∃ wz, wz = wy4 := ⟨_, rfl⟩
              rw [← hwz] at hHeld HOk HOt ⊢
              have hpk := HKf.out.put HK1.out.isMap x (pgV xs)
              have hpt := HDf.out.put HD1.out.isMap x (.bool true)
              rw [← HMk.out] at hpk
              rw [← HMt.out] at hpt
              have hbz := (hHeld.block q0 (by omega) (fun e => e.elim (fun h => m2' h.symm) (fun h => m3 h.symm))).trans (HB6.out.block q0 hq5)
              have hrz := (hHeld.block r (by omega) (fun e => by unfold TwoF at e; omega)).trans (HB6.out.block r hrl)
              have hrg := ranges_same HRg1.out hbz hrz
              have HCm := hide (show LoopI Tryz.prog 3 w7 wz bk bt q0 r fc fk fd Dc nc 20000 (fun z => left z && !z.sameKey (.int .i64 x)) cnt1 from ⟨⟨qk + 1, _, by have := HKq.out; have := HCn.out; omega, HOk.out, hpk⟩, ⟨qt + 1, _, by have := HDq.out; have := HCn.out; omega, HOt.out, hpt⟩, hrg, HLf.out, HK6.out.trans hHeld (fun j hj => .inl (hj.elim .inl (fun h => .inr (.inl h))))⟩)
              have HMs := hide (show wz.rangeLeft q0 r < wr.rangeLeft q0 r by rw [hrg.left_eq, ← HRg1.out.left_eq]; exact HLt1.out)
              clear hpk hpt hbz hrz hrg hHeld hwz
              go_wp2_with fail
              go_roundw
              case rel => exact ⟨_, _, HCm.out⟩
              case measure => exact HMs.out
            exact AllReadyH.nil
          exact AllReadyH.nil
        exact AllReadyH.nil
      exact AllReadyH.nil
end Go.Proofs.YtdcioacjhpnihaaGreatDoor
namespace Go.Proofs.YtdcioacjhpnihaaGreatDoor
open Go Go.RowKit Go.Maps Go.ChangeMaps Go.Lib Go.Shelf Go.Sort

theorem commit_any {C : Cfg} {run : RUN} (hrun : ∀ f args s v s', run f args s = some (v, s') → AnsOk Tryz.prog C f args s v s') {args : List Value} {s s' : AS} {v : Value} (h : xCommit run cF args s = some (v, s')) : AnsOk Tryz.prog C 107 args s v s' := by
  obtain ⟨rfl, k, kl, kk, kt, kc, T, Z, n, m, m2, s1, s2, s3, s4, s5, s6, s7, rfl, R⟩ := xCommit_ok h
  intro ι w args' hr ha
  obtain ⟨a, rfl⟩ : ∃ b, args' = [b] := List.length_eq_one_iff.1 ha.1.symm
  have e1 := ha.2 0 _ _ rfl rfl
  obtain ⟨b, bl, bk, bt, bc, hb, hbl, hbk, hbt, hbc, _⟩ := R.st0.world hr
  unfold pt at e1
  cases e1 with
  | ptr hb' =>
    rw [hb] at hb'
    cases hb'
    refine (commit_walk hrun R hr ⟨hb, hbl, hbk, hbt, hbc⟩).mono ?_
    rintro e w' ⟨rfl, ι', ht⟩
    exact ⟨ι', _, rfl, ht, .int _ _⟩
set_option maxHeartbeats 2000000 in
set_option maxRecDepth 20000 in
theorem next_any (bm nn : Nat) (D : DataW Value) (g : Int → Option Value) (first : Int) (W : World) (h : W.ownsMap Tryz.prog 157 RV bm nn D) (hF : MapF .u64 D g) (hg : ∀ x, (g x).isSome = true → 0 ≤ x ∧ x < 1000000000) (hf : 0 ≤ first ∧ first < 1000000000) :
    Calls Tryz.prog 299 #[.map (some bm), .int .u64 first] W fun e w' => (∃ v : Int, e = .returned (.int .u64 v) ∧ NextIs g first v) ∧ Below W.heap.size W w' := by
  have HM := hide h
  have HMF := hide hF
  have HGx := hide hg
  have HF := hide hf
  clear h hf hF hg
  generalize hQ : (fun (e : Ending) (w' : World) => (∃ v : Int, e = .returned (.int .u64 v) ∧ NextIs g first v) ∧ Below W.heap.size W w') = Q
  have HQ := hide hQ
  clear hQ
  go_enter Tryz.func299, Tryz.ntmps299
  go_wp2_with (at_range; refine wpList_range_own _ rfl _ 452 rfl 157 438 (Maps.int_keyed Tryz.underlying157) Tryz.underlying452 RV bm nn D rfl HM.out ?_; intro w0 hrg0 hg0 hs0)
  have HR0 := hide hrg0
  have HB0 := hide (show Below W.heap.size W w0 from (Below.refl _ _).grown hg0 (Nat.le_refl _) (fun k hk => by cases hk))
  clear hrg0 hg0 hs0
  go_frame
  go_loopw [1] (fun x wr => ∃ v : Int, x = .int .u64 v ∧ Below W.heap.size W wr ∧ ∃ left cnt, wr.ranges Tryz.prog 157 RV bm W.heap.size nn D left cnt ∧ (∀ kl, left kl = true → Maps.has D kl = true) ∧ (0 ≤ v ∧ v < 1000000001) ∧ first ≤ v ∧ (∀ x, (g x).isSome = true → left (.int .u64 x) = false → x + 1 ≤ v) ∧ (v = first ∨ ∃ x, (g x).isSome = true ∧ v = x + 1)) (fun _ wr => wr.rangeLeft bm W.heap.size)
  case atStart => exact ⟨first, rfl, HB0.out, _, _, HR0.out, fun kl h => h, by have := HF.out; omega, Int.le_refl _, fun x hx hl => (by rw [HMF.out.has, hx] at hl; cases hl), .inl rfl⟩
  case round =>
    obtain ⟨v, rfl, hb, left, cnt, hrg, hlf, hv, hv1, hv2, hv3⟩ := hrel
    have HV := hide hv
    have HV1 := hide hv1
    have HV2 := hide hv2
    have HV3 := hide hv3
    have HB := hide hb
    have HR := hide hrg
    have HL := hide hlf
    clear hv hv1 hv2 hv3 hb hrg hlf
    go_wp2_with (at_next; refine wpList_next_ranges _ rfl _ rfl 157 (Maps.int_keyed Tryz.underlying157) RV (Value.int .u64) (fun v : Value => v) (fun key kl hkey => by obtain ⟨x, rfl, _⟩ := Maps.keyOf_int_inv Tryz.underlying157 hkey; exact ⟨x, rfl⟩) (fun v y hv => ⟨v, rfl⟩) bm W.heap.size nn D left cnt rfl HR.out ?_ ?_)
    · intro _ hl
      go_wp2_with fail
      rw [← HQ.out]
      exact ⟨⟨v, rfl, HV1.out, fun x hx => HV2.out x hx (hl _), HV3.out⟩, HB.out⟩
    · intro x c kl ya yb w1 cnt1 hkey hlk hv2 hat hrg1 hlt hg1 hs1 hen
      obtain ⟨x', e1, e2, _⟩ := Maps.keyOf_int_inv Tryz.underlying157 hkey
      injection e1 with _ e1
      subst e1 e2
      have HR1 := hide hrg1
      have HB1 := hide (HB.out.grown hg1 HB.out.size (fun k hk => by cases hk; exact Nat.le_refl _))
      have HX := hide (show (g x).isSome = true by have := HL.out _ hlk; rwa [HMF.out.has] at this)
      have HLt := hide (show w1.rangeLeft bm W.heap.size < wr.rangeLeft bm W.heap.size by rw [hrg1.left_eq, HR.out.left_eq]; exact hlt)
      clear hkey hlk hv2 hat hrg1 hlt hg1 hs1
      go_wp2
      have hx := HGx.out x HX.out
      have hv := HV.out
      have hwr : IntKind.u64.wrap (x + 1) = x + 1 := by rw [IntKind.wrap_u64]; omega
      refine ⟨⟨_, rfl, HB1.out, _, _, HR1.out, fun z hz => HL.out z (by rw [Bool.and_eq_true] at hz; exact hz.1), ?_, ?_, fun y hy hly => ?_, ?_⟩, HLt.out⟩
      · rw [hwr]
        omega
      · have := HV1.out
        omega
      · rw [hwr]
        by_cases e : y = x
        · omega
        · have e2 : (Lit.int .u64 y).sameKey (.int .u64 x) = false := by simp [Lit.sameKey]; omega
          have h3 : left (.int .u64 y) = false := by
            have h4 : (left (.int .u64 y) && !(Lit.int .u64 y).sameKey (.int .u64 x)) = false := hly
            rw [e2] at h4
            simpa using h4
          have := HV2.out y hy h3
          omega
      · rw [hwr]
        rcases Int.le_total v (x + 1) with h5 | h5
        · exact .inr ⟨x, HX.out, by omega⟩
        · rw [Int.max_eq_left h5]
          exact HV3.out
end Go.Proofs.YtdcioacjhpnihaaGreatDoor
namespace Go.Proofs
open Go.Shelf
def Tryz.lays105_ren : Go.Shelf.Ren := ⟨fun | 105 => 135 | 212 => 224 | 99 => 225 | 165 => 226 | 166 => 227 | 170 => 228 | 169 => 229 | 263 => 312 | 264 => 313 | 206 => 314 | 240 => 315 | 241 => 316 | 276 => 368 | 277 => 369 | n => n, fun | 9 => 9 | 3 => 3 | 4 => 4 | 20 => 20 | 0 => 0 | 46 => 260 | 109 => 384 | 5 => 5 | 72 => 388 | 76 => 391 | 51 => 51 | 146 => 467 | 53 => 157 | 148 => 469 | 70 => 386 | 37 => 168 | 75 => 390 | 127 => 471 | 164 => 525 | 80 => 170 | n => n, fun | n => n⟩
theorem Tryz.lays105 : Go.Proofs.Lays.n105 Tryz.prog Tryz.lays105_ren := {
  mixed := by kernel_rfl
  f99 := Tryz.func225.trans (congrArg some (by kernel_rfl))
  f105 := Tryz.func135.trans (congrArg some (by kernel_rfl))
  f165 := Tryz.func226.trans (congrArg some (by kernel_rfl))
  f166 := Tryz.func227.trans (congrArg some (by kernel_rfl))
  f169 := Tryz.func229.trans (congrArg some (by kernel_rfl))
  f170 := Tryz.func228.trans (congrArg some (by kernel_rfl))
  f206 := Tryz.func314.trans (congrArg some (by kernel_rfl))
  f212 := Tryz.func224.trans (congrArg some (by kernel_rfl))
  f240 := Tryz.func315.trans (congrArg some (by kernel_rfl))
  f241 := Tryz.func316.trans (congrArg some (by kernel_rfl))
  f263 := Tryz.func312.trans (congrArg some (by kernel_rfl))
  f264 := Tryz.func313.trans (congrArg some (by kernel_rfl))
  f276 := Tryz.func368.trans (congrArg some (by kernel_rfl))
  f277 := Tryz.func369.trans (congrArg some (by kernel_rfl))
  t0 := Tryz.underlying0
  a0 := Tryz.isAgg0
  z0 := Tryz.sizeOf0
  v0 := Tryz.zeroValue0
  t3 := Tryz.underlying3
  a3 := Tryz.isAgg3
  z3 := Tryz.sizeOf3
  v3 := Tryz.zeroValue3
  t4 := Tryz.underlying4
  a4 := Tryz.isAgg4
  z4 := Tryz.sizeOf4
  v4 := Tryz.zeroValue4
  t5 := Tryz.underlying5
  a5 := Tryz.isAgg5
  z5 := Tryz.sizeOf5
  v5 := Tryz.zeroValue5
  t9 := Tryz.underlying9
  a9 := Tryz.isAgg9
  z9 := Tryz.sizeOf9
  v9 := Tryz.zeroValue9
  t20 := Tryz.underlying20
  a20 := Tryz.isAgg20
  z20 := Tryz.sizeOf20
  v20 := Tryz.zeroValue20
  t37 := Tryz.underlying168
  a37 := Tryz.isAgg168
  z37 := Tryz.sizeOf168
  v37 := Tryz.zeroValue168
  t46 := Tryz.underlying260
  a46 := Tryz.isAgg260
  z46 := Tryz.sizeOf260
  v46 := Tryz.zeroValue260
  t51 := Tryz.underlying51
  a51 := Tryz.isAgg51
  z51 := Tryz.sizeOf51
  v51 := Tryz.zeroValue51
  t53 := Tryz.underlying157
  a53 := Tryz.isAgg157
  z53 := Tryz.sizeOf157
  v53 := Tryz.zeroValue157
  t70 := Tryz.underlying386
  a70 := Tryz.isAgg386
  z70 := Tryz.sizeOf386
  v70 := Tryz.zeroValue386
  t72 := Tryz.underlying388
  a72 := Tryz.isAgg388
  z72 := Tryz.sizeOf388
  v72 := Tryz.zeroValue388
  t75 := Tryz.underlying390
  a75 := Tryz.isAgg390
  z75 := Tryz.sizeOf390
  v75 := Tryz.zeroValue390
  t76 := Tryz.underlying391
  a76 := Tryz.isAgg391
  z76 := Tryz.sizeOf391
  v76 := Tryz.zeroValue391
  t109 := Tryz.underlying384
  a109 := Tryz.isAgg384
  z109 := Tryz.sizeOf384
  v109 := Tryz.zeroValue384
  t127 := Tryz.underlying471
  a127 := Tryz.isAgg471
  z127 := Tryz.sizeOf471
  v127 := Tryz.zeroValue471
  t146 := Tryz.underlying467
  a146 := Tryz.isAgg467
  z146 := Tryz.sizeOf467
  v146 := Tryz.zeroValue467
  t148 := Tryz.underlying469
  a148 := Tryz.isAgg469
  z148 := Tryz.sizeOf469
  v148 := Tryz.zeroValue469
  t164 := Tryz.underlying525
  a164 := Tryz.isAgg525
  z164 := Tryz.sizeOf525
  v164 := Tryz.zeroValue525 }
def Tryz.keysP_ren : Go.Shelf.Ren := ⟨fun | 7 => 275 | 10 => 347 | n => n, fun | 23 => 237 | 26 => 3 | 3 => 344 | 28 => 433 | 0 => 0 | 27 => 432 | 33 => 160 | 4 => 4 | n => n, fun | n => n⟩
theorem Tryz.keysP : Go.Proofs.SlLaysZI.n7 Tryz.prog Tryz.keysP_ren := {
  mixed := by kernel_rfl
  f7 := ⟨Tryz.f275.name, by decide, Tryz.func275.trans (congrArg some (by kernel_rfl))⟩
  f10 := ⟨Tryz.f347.name, by decide, Tryz.func347.trans (congrArg some (by kernel_rfl))⟩
  t0 := Tryz.underlying0
  a0 := Tryz.isAgg0
  z0 := Tryz.sizeOf0
  v0 := Tryz.zeroValue0
  t4 := Tryz.underlying4
  a4 := Tryz.isAgg4
  z4 := Tryz.sizeOf4
  v4 := Tryz.zeroValue4
  t23 := Tryz.underlying237
  a23 := Tryz.isAgg237
  z23 := Tryz.sizeOf237
  v23 := Tryz.zeroValue237
  t26 := Tryz.underlying3
  a26 := Tryz.isAgg3
  z26 := Tryz.sizeOf3
  v26 := Tryz.zeroValue3
  t27 := Tryz.underlying432
  a27 := Tryz.isAgg432
  z27 := Tryz.sizeOf432
  v27 := Tryz.zeroValue432
  t28 := Tryz.underlying433
  a28 := Tryz.isAgg433
  z28 := Tryz.sizeOf433
  v28 := Tryz.zeroValue433
  t33 := Tryz.underlying160
  a33 := Tryz.isAgg160
  z33 := Tryz.sizeOf160
  v33 := Tryz.zeroValue160 }
def Tryz.sortedP_ren : Go.Shelf.Ren := ⟨fun | 6 => 274 | 8 => 345 | 9 => 346 | 11 => 387 | 13 => 389 | 12 => 388 | 23 => 423 | 24 => 424 | 14 => 414 | 15 => 415 | 16 => 416 | 17 => 417 | 18 => 418 | 19 => 419 | 20 => 420 | 21 => 421 | 22 => 422 | 25 => 448 | 26 => 449 | 27 => 450 | 28 => 451 | 29 => 452 | 30 => 453 | 31 => 466 | n => n, fun | 26 => 3 | 28 => 433 | 24 => 377 | 0 => 0 | 3 => 3 | 37 => 260 | 48 => 51 | 50 => 157 | 4 => 4 | 40 => 558 | 39 => 557 | 45 => 368 | 5 => 5 | 9 => 9 | 51 => 582 | 55 => 585 | 57 => 598 | 58 => 599 | 33 => 160 | n => n, fun | n => n⟩
theorem Tryz.sortedP : Go.Proofs.SlLaysZI.n6 Tryz.prog Tryz.sortedP_ren := {
  mixed := by kernel_rfl
  f6 := ⟨Tryz.f274.name, by decide, Tryz.func274.trans (congrArg some (by kernel_rfl))⟩
  f8 := ⟨Tryz.f345.name, by decide, Tryz.func345.trans (congrArg some (by kernel_rfl))⟩
  f11 := ⟨Tryz.f387.name, by decide, Tryz.func387.trans (congrArg some (by kernel_rfl))⟩
  t0 := Tryz.underlying0
  a0 := Tryz.isAgg0
  z0 := Tryz.sizeOf0
  v0 := Tryz.zeroValue0
  t24 := Tryz.underlying377
  a24 := Tryz.isAgg377
  z24 := Tryz.sizeOf377
  v24 := Tryz.zeroValue377
  t26 := Tryz.underlying3
  a26 := Tryz.isAgg3
  z26 := Tryz.sizeOf3
  v26 := Tryz.zeroValue3
  t28 := Tryz.underlying433
  a28 := Tryz.isAgg433
  z28 := Tryz.sizeOf433
  v28 := Tryz.zeroValue433
  i26 := by kernel_rfl }
def Tryz.sortP_ren : Go.Shelf.Ren := ⟨fun | 5 => 346 | 8 => 389 | 7 => 388 | 19 => 423 | 20 => 424 | 10 => 414 | 11 => 415 | 12 => 416 | 13 => 417 | 14 => 418 | 15 => 419 | 16 => 420 | 17 => 421 | 18 => 422 | 30 => 448 | 31 => 449 | 32 => 450 | 33 => 451 | 34 => 452 | 35 => 453 | 40 => 466 | n => n, fun | 23 => 377 | 25 => 3 | 3 => 3 | 32 => 260 | 22 => 377 | 0 => 0 | 44 => 51 | 46 => 157 | 4 => 4 | 36 => 558 | 35 => 557 | 41 => 368 | 5 => 5 | 9 => 9 | 53 => 582 | 57 => 585 | 63 => 598 | 64 => 599 | n => n, fun | n => n⟩
theorem Tryz.sortP : Go.Proofs.SlLaysM.n5 Tryz.prog Tryz.sortP_ren := {
  mixed := by kernel_rfl
  f5 := ⟨Tryz.f346.name, by decide, Tryz.func346.trans (congrArg some (by kernel_rfl))⟩
  f7 := ⟨Tryz.f388.name, by decide, Tryz.func388.trans (congrArg some (by kernel_rfl))⟩
  f8 := Tryz.func389.trans (congrArg some (by kernel_rfl))
  f10 := ⟨Tryz.f414.name, by decide, Tryz.func414.trans (congrArg some (by kernel_rfl))⟩
  f11 := ⟨Tryz.f415.name, by decide, Tryz.func415.trans (congrArg some (by kernel_rfl))⟩
  f12 := ⟨Tryz.f416.name, by decide, Tryz.func416.trans (congrArg some (by kernel_rfl))⟩
  f13 := ⟨Tryz.f417.name, by decide, Tryz.func417.trans (congrArg some (by kernel_rfl))⟩
  f14 := ⟨Tryz.f418.name, by decide, Tryz.func418.trans (congrArg some (by kernel_rfl))⟩
  f15 := ⟨Tryz.f419.name, by decide, Tryz.func419.trans (congrArg some (by kernel_rfl))⟩
  f16 := ⟨Tryz.f420.name, by decide, Tryz.func420.trans (congrArg some (by kernel_rfl))⟩
  f17 := ⟨Tryz.f421.name, by decide, Tryz.func421.trans (congrArg some (by kernel_rfl))⟩
  f18 := ⟨Tryz.f422.name, by decide, Tryz.func422.trans (congrArg some (by kernel_rfl))⟩
  f19 := Tryz.func423.trans (congrArg some (by kernel_rfl))
  f20 := Tryz.func424.trans (congrArg some (by kernel_rfl))
  f30 := ⟨Tryz.f448.name, by decide, Tryz.func448.trans (congrArg some (by kernel_rfl))⟩
  f31 := Tryz.func449.trans (congrArg some (by kernel_rfl))
  f32 := Tryz.func450.trans (congrArg some (by kernel_rfl))
  f33 := ⟨Tryz.f451.name, by decide, Tryz.func451.trans (congrArg some (by kernel_rfl))⟩
  f34 := ⟨Tryz.f452.name, by decide, Tryz.func452.trans (congrArg some (by kernel_rfl))⟩
  f35 := ⟨Tryz.f453.name, by decide, Tryz.func453.trans (congrArg some (by kernel_rfl))⟩
  f40 := ⟨Tryz.f466.name, by decide, Tryz.func466.trans (congrArg some (by kernel_rfl))⟩
  t0 := Tryz.underlying0
  a0 := Tryz.isAgg0
  z0 := Tryz.sizeOf0
  v0 := Tryz.zeroValue0
  t3 := Tryz.underlying3
  a3 := Tryz.isAgg3
  z3 := Tryz.sizeOf3
  v3 := Tryz.zeroValue3
  t4 := Tryz.underlying4
  a4 := Tryz.isAgg4
  z4 := Tryz.sizeOf4
  v4 := Tryz.zeroValue4
  t5 := Tryz.underlying5
  a5 := Tryz.isAgg5
  z5 := Tryz.sizeOf5
  v5 := Tryz.zeroValue5
  t9 := Tryz.underlying9
  a9 := Tryz.isAgg9
  z9 := Tryz.sizeOf9
  v9 := Tryz.zeroValue9
  t22 := Tryz.underlying377
  a22 := Tryz.isAgg377
  z22 := Tryz.sizeOf377
  v22 := Tryz.zeroValue377
  t23 := Tryz.underlying377
  a23 := Tryz.isAgg377
  z23 := Tryz.sizeOf377
  v23 := Tryz.zeroValue377
  t25 := Tryz.underlying3
  a25 := Tryz.isAgg3
  z25 := Tryz.sizeOf3
  v25 := Tryz.zeroValue3
  t32 := Tryz.underlying260
  a32 := Tryz.isAgg260
  z32 := Tryz.sizeOf260
  v32 := Tryz.zeroValue260
  t35 := Tryz.underlying557
  a35 := Tryz.isAgg557
  z35 := Tryz.sizeOf557
  v35 := Tryz.zeroValue557
  t36 := Tryz.underlying558
  a36 := Tryz.isAgg558
  z36 := Tryz.sizeOf558
  v36 := Tryz.zeroValue558
  t41 := Tryz.underlying368
  a41 := Tryz.isAgg368
  z41 := Tryz.sizeOf368
  v41 := Tryz.zeroValue368
  t44 := Tryz.underlying51
  a44 := Tryz.isAgg51
  z44 := Tryz.sizeOf51
  v44 := Tryz.zeroValue51
  t46 := Tryz.underlying157
  a46 := Tryz.isAgg157
  z46 := Tryz.sizeOf157
  v46 := Tryz.zeroValue157
  t53 := Tryz.underlying582
  a53 := Tryz.isAgg582
  z53 := Tryz.sizeOf582
  v53 := Tryz.zeroValue582
  t57 := Tryz.underlying585
  a57 := Tryz.isAgg585
  z57 := Tryz.sizeOf585
  v57 := Tryz.zeroValue585
  t63 := Tryz.underlying598
  a63 := Tryz.isAgg598
  z63 := Tryz.sizeOf598
  v63 := Tryz.zeroValue598
  t64 := Tryz.underlying599
  a64 := Tryz.isAgg599
  z64 := Tryz.sizeOf599
  v64 := Tryz.zeroValue599 }
def Tryz.ins22_ren : Go.Shelf.Ren := ⟨fun | 22 => 370 | 29 => 400 | 30 => 401 | 36 => 436 | 17 => 458 | n => n, fun | 24 => 27 | 9 => 9 | 3 => 3 | 4 => 4 | 0 => 0 | n => n, fun | n => n⟩
theorem Tryz.ins22 : Go.Proofs.Lays2.n22 Tryz.prog Tryz.ins22_ren := {
  mixed := by kernel_rfl
  f17 := Tryz.func458.trans (congrArg some (by kernel_rfl))
  f22 := Tryz.func370.trans (congrArg some (by kernel_rfl))
  f29 := Tryz.func400.trans (congrArg some (by kernel_rfl))
  f30 := Tryz.func401.trans (congrArg some (by kernel_rfl))
  f36 := Tryz.func436.trans (congrArg some (by kernel_rfl))
  t0 := Tryz.underlying0
  a0 := Tryz.isAgg0
  z0 := Tryz.sizeOf0
  v0 := Tryz.zeroValue0
  t3 := Tryz.underlying3
  a3 := Tryz.isAgg3
  z3 := Tryz.sizeOf3
  v3 := Tryz.zeroValue3
  t4 := Tryz.underlying4
  a4 := Tryz.isAgg4
  z4 := Tryz.sizeOf4
  v4 := Tryz.zeroValue4
  t9 := Tryz.underlying9
  a9 := Tryz.isAgg9
  z9 := Tryz.sizeOf9
  v9 := Tryz.zeroValue9
  t24 := Tryz.underlying27
  a24 := Tryz.isAgg27
  z24 := Tryz.sizeOf27
  v24 := Tryz.zeroValue27
  i9 := by kernel_rfl }
end Go.Proofs
