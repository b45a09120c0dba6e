/- Walk of pages.Open, on a disk whose log has no text. A log's text as pages: walk of images. Walk of (*Store).written. The sheets of a log as a function; wal.texts in general. wal.next's number; walk of wal.Open, whatever sheets there are. Walk of pages.Open, whatever texts its log has. -/
import Derived.Test.YtnnfiicmplkakaaGreatDoorQ9
import Derived.Test.YtnnfiicmplkakaaGreatDoorQ5
import Derived.WalkMore
import Derived.Shelf.Strings.BuilderK
namespace Go.Proofs.YtnnfiicmplkakaaGreatDoor
open Go.RowKit Go.Shelf

theorem noteS_bs (P : Nat) (nt : ByteArray) : bs (noteS P nt) = Pl.be 2 (P : Int) ++ bs nt := by
  unfold noteS
  exact bs_nums (Byt.app (Pl.be_byt _ _) (bs_byt nt))
theorem un_be2 (P : Nat) (h : P < 65536) : Pl.un (Pl.be 2 (P : Int)) = (P : Int) := by
  have e2 : (256 : Int) ^ 2 = 65536 := by decide
  exact un_be 2 _ (by omega) (by rw [e2]; omega)
/-- the boxes that Open makes -/
theorem open_boxes (w : World) (cs : List Value) (t : TypeId) :
    ((((w.alloc (.map #[] 0)).alloc (.map #[] 0)).alloc (.map #[] 0)).alloc (.cells cs.toArray t)).ownsMap Tryz.prog 3 pgR w.heap.size 0 (.map []) ∧
    ((((w.alloc (.map #[] 0)).alloc (.map #[] 0)).alloc (.map #[] 0)).alloc (.cells cs.toArray t)).ownsMap Tryz.prog 3 (plainElem (H := Unit) Tryz.prog 4) (w.heap.size + 1) 0 (.map []) ∧
    ((((w.alloc (.map #[] 0)).alloc (.map #[] 0)).alloc (.map #[] 0)).alloc (.cells cs.toArray t)).ownsMap Tryz.prog 3 pgR (w.heap.size + 1 + 1) 0 (.map []) ∧
    Whole ((((w.alloc (.map #[] 0)).alloc (.map #[] 0)).alloc (.map #[] 0)).alloc (.cells cs.toArray t)) (w.heap.size + 1 + 1 + 1) t cs ∧ Below w.heap.size w ((((w.alloc (.map #[] 0)).alloc (.map #[] 0)).alloc (.map #[] 0)).alloc (.cells cs.toArray t)) := by
  have z1 : (w.alloc (.map #[] 0)).heap.size = w.heap.size + 1 := by simp
  have z2 : ((w.alloc (.map #[] 0)).alloc (.map #[] 0)).heap.size = w.heap.size + 1 + 1 := by simp
  have z3 : (((w.alloc (.map #[] 0)).alloc (.map #[] 0)).alloc (.map #[] 0)).heap.size = w.heap.size + 1 + 1 + 1 := by simp
  have h1 : (w.alloc (.map #[] 0)).ownsMap Tryz.prog 3 pgR w.heap.size 0 (.map []) := World.ownsMap_made _ _ _ _
  have h2 : ((w.alloc (.map #[] 0)).alloc (.map #[] 0)).ownsMap Tryz.prog 3 (plainElem (H := Unit) Tryz.prog 4) (w.alloc (.map #[] 0)).heap.size 0 (.map []) := World.ownsMap_made _ _ _ _
  have h3 : (((w.alloc (.map #[] 0)).alloc (.map #[] 0)).alloc (.map #[] 0)).ownsMap Tryz.prog 3 pgR ((w.alloc (.map #[] 0)).alloc (.map #[] 0)).heap.size 0 (.map []) := World.ownsMap_made _ _ _ _
  have h4 := Whole.new (((w.alloc (.map #[] 0)).alloc (.map #[] 0)).alloc (.map #[] 0)) cs t
  rw [z1] at h2
  rw [z2] at h3
  rw [z3] at h4
  exact ⟨((h1.alloc _).alloc _).alloc _, (h2.alloc _).alloc _, h3.alloc _, h4, ((((Below.refl _ _).alloc (Nat.le_refl _) _).alloc (by omega) _).alloc (by omega) _).alloc (by omega) _⟩
/-- what lies in memory while Open goes on -/
structure OpW (W w : World) (bd n : Nat) (F : Nat → Prop) (c : Nat → List Int) (m : Nat) (h : Hd) (ia : Nat) (bl bk : Nat) (cs : List Value) : Prop where
  lg : Lg w bl bd h ia h.first h.sec
  ds : Ds w bd n F c m
  k : w.ownsMap Tryz.prog 3 pgR bk 0 (.map [])
  t : w.ownsMap Tryz.prog 3 (plainElem (H := Unit) Tryz.prog 4) (bk + 1) 0 (.map [])
  c : w.ownsMap Tryz.prog 3 pgR (bk + 1 + 1) 0 (.map [])
  st : Whole w (bk + 1 + 1 + 1) 160 cs
  bel : Below W.heap.size W w
section
variable {W w w' : World} {bd n : Nat} {F : Nat → Prop} {c : Nat → List Int} {m : Nat} {h : Hd} {ia : Nat} {bl bk : Nat} {cs : List Value}
theorem OpW.kp {G : Nat → Prop} (o : OpW W w bd n F c m h ia bl bk cs) (hk : Kp G w w') (hG : ∀ k, G k → bk + 1 + 1 + 1 < k ∧ W.heap.size ≤ k ∧ k ≠ bl ∧ ¬ F k) : OpW W w' bd n F c m h ia bl bk cs := by
  have hn : ∀ b, b ≤ bk + 1 + 1 + 1 → ¬ G b := fun b hb hg => by have := (hG b hg).1; omega
  exact ⟨o.lg.kp hk (fun hg => (hG _ hg).2.2.1 rfl), o.ds.kp hk (fun k hf hg => (hG k hg).2.2.2 hf), owns_kp o.k hk (hn _ (by omega)), owns_kp o.t hk (hn _ (by omega)), owns_kp o.c hk (hn _ (by omega)), o.st.kp hk (hn _ (by omega)), o.bel.trans (hk.below o.bel.size (fun i hi => (hG i hi).2.1))⟩
theorem OpW.below (o : OpW W w bd n F c m h ia bl bk cs) (hb : Below w.heap.size w w') : OpW W w' bd n F c m h ia bl bk cs := o.kp (G := NoF) (Kp.of_below hb) (fun _ h => h.elim)
theorem OpW.put (o : OpW W w bd n F c m h ia bl bk cs) (i : Nat) (v : Value) (hbk : W.heap.size ≤ bk) (hbl : bl < bk) (hF : ¬ F (bk + 1 + 1 + 1)) : OpW W (w.setCell ⟨bk + 1 + 1 + 1, i, none⟩ v) bd n F c m h ia bl bk (cs.set i v) := by
  have hk : Kp (OnlyF (bk + 1 + 1 + 1)) w (w.setCell ⟨bk + 1 + 1 + 1, i, none⟩ v) := Kp.set_only _ _ _ _
  have hn : ∀ b, b < bk + 1 + 1 + 1 → ¬ OnlyF (bk + 1 + 1 + 1) b := fun b hb e => by have : b = bk + 1 + 1 + 1 := e; omega
  exact ⟨o.lg.kp hk (hn _ (by omega)), o.ds.kp hk (fun k hf hg => hF (by have : k = bk + 1 + 1 + 1 := hg; rwa [← this])), owns_kp o.k hk (hn _ (by omega)), owns_kp o.t hk (hn _ (by omega)), owns_kp o.c hk (hn _ (by omega)), o.st.set_ i v, o.bel.setCell (by show W.heap.size ≤ bk + 1 + 1 + 1; omega) _⟩
end
/-- what Open begins with -/
def openD (c : Nat → List Int) (h : Hd) (ia : Nat) : PgD := ⟨upd c (1 - ia) (trimHd h h.first).bytes, 0, trimHd h h.first, ((1 - ia : Nat) : Int), h.first, 0, 0, fun _ => none, fun _ => false, fun _ => none⟩
def POpenRes (bd n P : Nat) (nt : ByteArray) (F : Nat → Prop) (d : PgD) (W : World) (e : Ending) (W' : World) : Prop :=
  ∃ s : PgS, s.bd = bd ∧ s.n = n ∧ s.P = P ∧ s.note = nt ∧ (W.heap.size ≤ s.bs ∧ W.heap.size ≤ s.bk ∧ W.heap.size ≤ s.bt ∧ W.heap.size ≤ s.bc ∧ W.heap.size ≤ s.bl) ∧ e = .returned (.tuple #[.pointer (some ⟨s.bs, 0, none⟩), .int .i64 0]) ∧
    ∃ F', PSv W' s F' d ∧ Kp F W W' ∧ ∀ k, F' k → F k ∨ W.heap.size ≤ k
set_option maxHeartbeats 4000000 in
set_option maxRecDepth 20000 in
theorem popen_any (bd n : Nat) (F : Nat → Prop) (c : Nat → List Int) (m P : Nat) (nt : ByteArray) (ws : List Nat) (xs : Nat → Option Hd) (h : Hd) (ia : Nat) (W : World) (hd : Ds W bd n F c m) (hm : m ≤ 80000) (hi : ia ≤ 1) (hg1 : h.gen < 4294967296)
    (hx : ∀ i, i < 2 → HdIs (c i) (xs i)) (hb : bestTo xs 2 = some (h, ia)) (hs1 : 1 ≤ h.sec) (hs : h.sec < 60000) (hP0 : 64 ≤ P) (hP1 : P ≤ 1024) (hn : 2 + h.sec + P ≤ n) (hy : ∀ i, i < h.sec → ShIs (c (2 + i)) none) (ht : Tab W) (hgd : h.good)
    (hnote : h.note = noteS P nt) (hnt : nt.size ≤ 40) (hc : ∀ j, (c j).length = 512 ∧ Byt (c j)) (hok : MapOk P ws) (hcl : Clean P ws) (h0 : bitAt ws 0 = true) (hpg : c (2 + h.sec) = nI (bytesTo ws P)) (hF1 : ¬ F 0) :
    Calls Tryz.prog 65 #[.pointer (some ⟨bd, 0, none⟩)] W (POpenRes bd n P nt F ((openD c h ia).read 0) W) := by
  have HWal := hide (walopen_any bd n F c m xs h ia W hd (by omega) hx hb hs1 hs (by omega) hy ht hgd)
  have HD := hide hd
  have HT := hide ht
  have HGd := hide hgd
  have HC := hide hc
  have hmm := @run_makeMap Tryz.prog
  have HNt := hide (noteS_bs P nt)
  have HNote := hide hnote
  have HPg := hide hpg
  have HOk := hide hok
  have HCl := hide hcl
  have HB0 := hide h0
  clear hd ht hgd hc hx hb hy hnote hpg hok hcl h0
  generalize hR : POpenRes _ _ _ _ _ _ _ = R
  have HR := hide hR
  clear hR
  go_enter Tryz.func65, Tryz.ntmps65
  go_wp2_with fail
  refine HWal.out.mono ?_
  rintro e w1 ⟨bl, rfl, hlg, hbl, hb1⟩
  have HLg1 := hide hlg
  have HB1 := hide hb1
  have hll := hlg.whole.lt
  have hF0 : ∀ k, F k → k < W.heap.size := fun k hk => HD.out.lt hk
  clear hlg hb1
  go_upto_region 5 with fail
  obtain ⟨o1, o2, o3, o4, o5⟩ := open_boxes w1 [.pointer (some ⟨bl, 0, none⟩), .pointer (some ⟨bd, 0, none⟩), .int .i64 0, .string ByteArray.empty, .map (some w1.heap.size), .map (some (w1.heap.size + 1)), .map (some (w1.heap.size + 1 + 1)), .bool false] 160
  have HO4 := hide (show OpW W _ bd n F c m h ia bl w1.heap.size _ from ⟨HLg1.out.below o5, (HD.out.below HB1.out).below o5, o1, o2, o3, o4, HB1.out.trans (o5.mono HB1.out.size)⟩)
  have hbW : W.heap.size ≤ w1.heap.size := HB1.out.size
  clear o1 o2 o3 o4 o5 hmm
  change Code.wp _ _ _ _ ((((w1.alloc (.map #[] 0)).alloc (.map #[] 0)).alloc (.map #[] 0)).alloc (.cells [.pointer (some ⟨bl, 0, none⟩), .pointer (some ⟨bd, 0, none⟩), .int .i64 0, .string ByteArray.empty, .map (some w1.heap.size), .map (some (w1.heap.size + 1)), .map (some (w1.heap.size + 1 + 1)), .bool false].toArray 160))
  generalize (((w1.alloc (.map #[] 0)).alloc (.map #[] 0)).alloc (.map #[] 0)).alloc (.cells [.pointer (some ⟨bl, 0, none⟩), .pointer (some ⟨bd, 0, none⟩), .int .i64 0, .string ByteArray.empty, .map (some w1.heap.size), .map (some (w1.heap.size + 1)), .map (some (w1.heap.size + 1 + 1)), .bool false].toArray 160) = w4 at *
  generalize w1.heap.size = bk at *
  go_wp2_with fail
  refine (lnote_any HO4.out.lg).mono ?_
  rintro e w' ⟨rfl, rfl⟩
  obtain ⟨A5, c5, w5, hrun, hm5, hb5⟩ := conv_bytes w4 h.note
  have HM5 := hide hm5
  have HO5 := hide (HO4.out.below hb5)
  clear hm5 hb5
  have hlb := bs_len h.note
  have HOf := hide (of_any A5 (bs h.note) c5 w5 HM5.out (by rw [hlb, HNote.out, noteS, strOfNums_size, List.length_append, Pl.be_len, bs_len]; omega))
  rw [hlb] at HOf
  clear hlb
  go_wp2_with fail
  refine HOf.out.mono ?_
  rintro e w6 ⟨bo, g, A6, c6, rfl, hop, hb6, hbo, hg⟩
  have hlt5 := HO5.out.st.lt
  have HO6 := hide (HO5.out.below hb6)
  have HOp := hide hop
  clear hop hb6 HOf hrun
  have hnF3 : ¬ F (bk + 1 + 1 + 1) := fun hf => by have := hF0 _ hf; omega
  have hGo : ∀ k, OnlyF bo k → bk + 1 + 1 + 1 < k ∧ W.heap.size ≤ k ∧ k ≠ bl ∧ ¬ F k := fun k hk => by
    have hk' : k = bo := hk
    exact ⟨by omega, by omega, by omega, fun hf => by have := hF0 _ hf; omega⟩
  rw [HNote.out, HNt.out] at HOp
  have hun := un_be2 P (by omega)
  have hTk := take_any bo g A6 c6 2 (Pl.be 2 (P : Int) ++ bs nt) w6 HOp.out (.inr (.inl rfl)) (by rw [List.length_append, Pl.be_len]; omega) (Byt.app (Pl.be_byt _ _) (bs_byt nt))
  have ht2 : (Pl.be 2 (P : Int) ++ bs nt).take 2 = Pl.be 2 (P : Int) := List.take_left' (Pl.be_len _ _)
  have hd2 : (Pl.be 2 (P : Int) ++ bs nt).drop 2 = bs nt := List.drop_left' (Pl.be_len _ _)
  rw [ht2, hd2, hun] at hTk
  have HTk := hide hTk
  clear hTk ht2 hd2 hun
  go_wp2_with fail
  refine HTk.out.mono ?_
  rintro e w7 ⟨rfl, A7, c7, hop7, hk7⟩
  have HO7 := hide (HO6.out.kp hk7 hGo)
  have HOp7 := hide hop7
  clear hop7 hk7 HTk
  have hw7 : IntKind.i64.wrap (P : Int) = (P : Int) := IntWalk.i64_in _ (by omega)
  have e2 := HO7.out.st.cell 2
  have x2 := HO7.out.st.frozen 2
  simp only [List.getElem?_cons_zero, List.getElem?_cons_succ] at e2
  go_upto_region 7 with fail
  have HO8 := hide (HO7.out.put 2 (.int .i64 (P : Int)) hbW hll hnF3)
  have hk8 : Kp (OnlyF (bk + 1 + 1 + 1)) w7 (w7.setCell ⟨bk + 1 + 1 + 1, 2, none⟩ (.int .i64 (P : Int))) := Kp.set_only _ _ _ _
  have HOp8 := hide (HOp7.out.kp hk8 (fun e => by have : bo = bk + 1 + 1 + 1 := e; omega) (fun e => by have : g = bk + 1 + 1 + 1 := e; omega))
  clear e2 x2 hk8
  generalize w7.setCell ⟨bk + 1 + 1 + 1, 2, none⟩ (.int .i64 (P : Int)) = w8 at *
  have HLf := hide (left_any bo g A7 c7 (bs nt) 0 w8 HOp8.out)
  have hTx := otext_any bo g A7 c7 (bs nt).length (bs nt) w8 HOp8.out (Nat.le_refl _)
  rw [List.take_of_length_le (Nat.le_refl _), nums_bs, List.drop_of_length_le (Nat.le_refl _), bs_len] at hTx
  rw [bs_len] at HLf
  have HTx := hide hTx
  clear hTx
  go_wp2_with fail
  refine HLf.out.mono ?_
  rintro e w' ⟨rfl, rfl⟩
  go_wp2_with fail
  refine HTx.out.mono ?_
  rintro e w9 ⟨rfl, A9, c9, hop9, hk9⟩
  have HO9 := hide (HO8.out.kp hk9 hGo)
  have HOp9 := hide hop9
  clear hop9 hk9 HTx HLf
  have e3 := HO9.out.st.cell 3
  have x3 := HO9.out.st.frozen 3
  simp only [List.getElem?_cons_zero, List.getElem?_cons_succ, List.set_cons_succ, List.set_cons_zero] at e3
  go_upto_region 8 with fail
  have hoa := HO9.out.put 3 (.string nt) hbW hll hnF3
  simp only [List.set_cons_succ, List.set_cons_zero] at hoa
  have HOa := hide hoa
  have hka : Kp (OnlyF (bk + 1 + 1 + 1)) w9 (w9.setCell ⟨bk + 1 + 1 + 1, 3, none⟩ (.string nt)) := Kp.set_only _ _ _ _
  have HOpa := hide (HOp9.out.kp hka (fun e => by have : bo = bk + 1 + 1 + 1 := e; omega) (fun e => by have : g = bk + 1 + 1 + 1 := e; omega))
  clear e3 x3 hka hoa
  generalize w9.setCell ⟨bk + 1 + 1 + 1, 3, none⟩ (.string nt) = wa at *
  have hp1 : PS wa (bk + 1 + 1 + 1) bl bd n F c m h ia h.first h.sec P nt bk (bk + 1) (bk + 1 + 1) 0 (.map []) (.map []) (.map []) :=
    ⟨HOa.out.st, ⟨HOa.out.lg, HOa.out.ds, fun hf => by have := hF0 _ hf; omega⟩, HOa.out.k, HOa.out.t, HOa.out.c, ⟨hnF3, fun hf => by have := hF0 _ hf; omega, fun hf => by have := hF0 _ hf; omega, fun hf => by have := hF0 _ hf; omega⟩,
      ⟨by omega, by omega, by omega, by omega⟩, ⟨by omega, by omega, by omega⟩, ⟨by omega, by omega, by omega⟩⟩
  have hps : PSv wa ⟨bk + 1 + 1 + 1, bl, bd, n, P, nt, bk, bk + 1, bk + 1 + 1⟩ F ⟨c, m, h, ia, h.first, h.sec, 0, fun _ => none, fun _ => false, fun _ => none⟩ :=
    ⟨.map [], .map [], .map [], hp1, PgV.empty, ⟨fun _ => rfl, fun kl h => by cases h⟩, PgV.empty⟩
  have HPS := hide hps
  have hEnd := end_any bo g A9 c9 [] 0 wa HOpa.out
  have hee : endErr [] 0 = 0 := rfl
  rw [hee] at hEnd
  have HEnd := hide hEnd
  have HBe := hide (show Calls Tryz.prog 46 #[.pointer (some ⟨bk + 1 + 1 + 1, 0, none⟩)] wa fun e w' => e = .returned (.int .i64 ((2 + h.sec + P : Nat) : Int)) ∧ ∃ k, w' = wa.drewN k from behind_any hp1 (by omega) (by omega))
  have c2 : wa.cell? ⟨bk + 1 + 1 + 1, 2, none⟩ = some (.int .i64 (P : Int)) := HOa.out.st.cell 2
  have c3 : wa.cell? ⟨bk + 1 + 1 + 1, 3, none⟩ = some (.string nt) := HOa.out.st.cell 3
  have d1 : decide ((P : Int) < 64) = false := by simp; omega
  have d2 : decide ((1024 : Int) < (P : Int)) = false := by simp; omega
  have d3 : decide ((n : Int) < ((2 + h.sec + P : Nat) : Int)) = false := by simp; omega
  have d4 : decide ((40 : Int) < (nt.size : Int)) = false := by simp; omega
  clear hp1 hps hEnd hee hw7
  go_wp2_with fail
  refine HEnd.out.mono ?_
  rintro e w' ⟨rfl, rfl⟩
  go_wp2_with fail
  refine HBe.out.mono ?_
  rintro e w' ⟨rfl, kq, rfl⟩
  have HBq := hide (below_drewN (Below.refl wa.heap.size wa) kq)
  have HPq := hide (HPS.out.below HBq.out)
  have HDq := hide (HOa.out.ds.below HBq.out)
  have HBW := hide (HOa.out.bel.trans (HBq.out.mono HOa.out.bel.size))
  have HLenq := hide (show Calls Tryz.prog 21 #[.pointer (some ⟨bd, 0, none⟩)] (wa.drewN kq) (fun e w' => e = .returned (.int .i64 n) ∧ wa.drewN kq = w') from by
    obtain ⟨A0, k0, hln⟩ := HDq.out.len
    exact dlen_any bd n k0 A0 _ hln)
  have HOq := hide (HOa.out.below HBq.out)
  clear c2 c3
  generalize wa.drewN kq = wq at *
  have c3 : wq.cell? ⟨bk + 1 + 1 + 1, 3, none⟩ = some (.string nt) := HOq.out.st.cell 3
  go_wp2_with fail
  refine HLenq.out.mono ?_
  rintro e w' ⟨rfl, rfl⟩
  clear HBq HPS HOa HOpa
  go_wp2_with fail
  clear c3 HOq
  have hszq := HBW.out.size
  have hlq := HPq.out.lts
  go_loopw [84] (fun x wr => x = .int .i64 0 ∧ wr = wq) (fun _ _ => 0)
  case atStart => exact ⟨rfl, rfl⟩
  case round =>
    obtain ⟨rfl, hwr⟩ := hrel
    have ef1 : ∀ args w, (callFunc 99 args).run Tryz.prog w = .ok (.enter 99 args) w := enters_of Tryz.func99 (by kernel_rfl) rfl
    have ef2 : ∀ args w, (callFunc 105 args).run Tryz.prog w = .ok (.enter 105 args) w := enters_of Tryz.func105 (by kernel_rfl) rfl
    have HE1 := hide ef1
    have HE2 := hide ef2
    clear ef1 ef2
    rw [hwr]
    clear hwr
    go_wp2_with fail
    have hx : Whole (wq.alloc (.cells #[.func (.func 99) #[.pointer (some ⟨bd, 0, none⟩)] #[], .func (.func 105) #[.pointer (some ⟨bl, 0, none⟩)] #[]] 67)) wq.heap.size 67 [.func (.func 99) #[.pointer (some ⟨bd, 0, none⟩)] #[], .func (.func 105) #[.pointer (some ⟨bl, 0, none⟩)] #[]] := Whole.new wq _ _
    have hbS : Below wq.heap.size wq (wq.alloc (.cells #[.func (.func 99) #[.pointer (some ⟨bd, 0, none⟩)] #[], .func (.func 105) #[.pointer (some ⟨bl, 0, none⟩)] #[]] 67)) := (Below.refl _ _).alloc (Nat.le_refl _) _
    have HPS := hide (HPq.out.below hbS)
    have HDS := hide (HDq.out.below hbS)
    have HTS := hide ((HT.out.below HBW.out).below hbS)
    have HBS := hide (HBW.out.trans (hbS.mono hszq))
    have hnb : ¬ F wq.heap.size := fun hf => by have := hF0 _ hf; omega
    clear hbS
    generalize wq.alloc (.cells #[.func (.func 99) #[.pointer (some ⟨bd, 0, none⟩)] #[], .func (.func 105) #[.pointer (some ⟨bl, 0, none⟩)] #[]] 67) = wS at *
    generalize wq.heap.size = bb at *
    have hnbl : ¬ F bl := fun hf => by have := hF0 _ hf; omega
    have hll' : bl < wS.heap.size := by have := HPS.out.lts; exact this.2.2.2.2
    have hAll := all2_any 99 105 #[.pointer (some ⟨bd, 0, none⟩)] #[.pointer (some ⟨bl, 0, none⟩)] #[] #[] bb wS
      (fun w => ∃ F1, PSv w ⟨bk + 1 + 1 + 1, bl, bd, n, P, nt, bk, bk + 1, bk + 1 + 1⟩ F1 ⟨c, 0, h, ia, h.first, h.sec, 0, fun _ => none, fun _ => false, fun _ => none⟩ ∧ Kp F wS w ∧ ∀ k, F1 k → F k ∨ wS.heap.size ≤ k)
      (fun w => ∃ F2, PSv w ⟨bk + 1 + 1 + 1, bl, bd, n, P, nt, bk, bk + 1, bk + 1 + 1⟩ F2 (openD c h ia) ∧ Kp (lF bl F) wS w ∧ ∀ k, F2 k → F k ∨ wS.heap.size ≤ k)
      HE1.out HE2.out (hx.cell 0) (fun w hr => by
        obtain ⟨F1, _, hk, _⟩ := hr
        exact (hk.cell (p := ⟨bb, 1, none⟩) hx.lt hnb).trans (hx.cell 1))
      (by
        show Calls Tryz.prog 99 #[.pointer (some ⟨bd, 0, none⟩)] wS _
        refine (HDS.out.flush (by omega)).mono ?_
        rintro e w ⟨rfl, F1, g1, g2, g3⟩
        have hlg : Lg wS bl bd h ia h.first h.sec := by obtain ⟨_, _, _, hp, _⟩ := HPS.out; exact hp.ld.lg
        have hld : LD w bl bd n F1 c 0 h ia h.first h.sec := ⟨hlg.kp g2 hnbl, g1, fun hf => (g3 _ hf).elim hnbl (fun hh => by omega)⟩
        exact ⟨rfl, F1, HPS.out.disk hld (g2.mono (fun i hi => .inl (.inr hi))) g3, g2, g3⟩)
      (fun w hr => by
        obtain ⟨F1, hp, hk, hsub⟩ := hr
        show Calls Tryz.prog 105 #[.pointer (some ⟨bl, 0, none⟩)] w _
        have hld : LD w bl bd n F1 c 0 h ia h.first h.sec := by obtain ⟨_, _, _, h1, _⟩ := hp; exact h1.ld
        refine (trim_any bl bd n F1 c 0 h ia h.first h.sec w hld (by omega) HGd.out hg1 hi HGd.out.2.1 (by omega) (HTS.out.kp hk hF1)).mono ?_
        rintro e w' ⟨rfl, F2, l1, l2, l3⟩
        refine ⟨rfl, F2, hp.disk l1 l2 l3, (hk.mono (G := lF bl F) (fun i hi => .inl (.inr hi))).trans l2 (fun i hi => hi.elim (fun e => .inl (.inl e)) (fun hf => (hsub i hf).imp (fun h => .inr h) id)), fun k hk' => (l3 k hk').elim (hsub k) (fun hh => .inr (Nat.le_trans hk.size hh))⟩)
    have HAll := hide hAll
    clear hAll hx HE1 HE2
    refine HAll.out.mono ?_
    rintro e w2 ⟨rfl, F2, hp2, hk2, hs2⟩
    have HP2 := hide hp2
    have HK2 := hide hk2
    have HS2 := hide hs2
    clear hp2 hk2 hs2 HAll
    have hgood : (trimHd h h.first).good := ⟨by have := HGd.out.1; show 0 ≤ h.gen + 1 ∧ h.gen + 1 < _; omega, HGd.out.2.1, HGd.out.2.2⟩
    have hc' : ∀ j, ((openD c h ia).c j).length = 512 ∧ Byt ((openD c h ia).c j) := fun j => by
      show (upd c (1 - ia) (trimHd h h.first).bytes j).length = 512 ∧ _
      show _ ∧ Byt (upd c (1 - ia) (trimHd h h.first).bytes j)
      unfold upd
      split
      · exact ⟨headB_len _ _ _ _ (by have := hgood.2.2.2; omega), headB_byt _ _ _ _ (by have := hgood.2.2.2; omega)⟩
      · exact HC.out j
    have ho : PgOk ⟨bk + 1 + 1 + 1, bl, bd, n, P, nt, bk, bk + 1, bk + 1 + 1⟩ (openD c h ia) := ⟨show 1 ≤ P by omega, show P ≤ 1024 by omega, Nat.zero_le _, Nat.zero_le _, show h.sec ≤ 60000 by omega, show 2 + h.sec + P ≤ n from hn, hc'⟩
    have hpa : pageAt (openD c h ia) 0 = nI (bytesTo ws P) := by
      show upd c (1 - ia) (trimHd h h.first).bytes (2 + h.sec + 0) = _
      unfold upd
      rw [if_neg (by omega), Nat.add_zero]
      exact HPg.out
    have hx2 : MapPg ⟨bk + 1 + 1 + 1, bl, bd, n, P, nt, bk, bk + 1, bk + 1 + 1⟩ (openD c h ia) ws := ⟨hpa, HOk.out, HCl.out, HB0.out⟩
    have HUs := hide (show Calls Tryz.prog 106 #[.pointer (some ⟨bk + 1 + 1 + 1, 0, none⟩)] w2 (fun e W' => e = .returned (.tuple #[.agg (mapC P ws).toArray, .int .i64 0]) ∧ PSv W' ⟨bk + 1 + 1 + 1, bl, bd, n, P, nt, bk, bk + 1, bk + 1 + 1⟩ F2 ((openD c h ia).read 0) ∧ Kp (TwoF (bk + 1 + 1 + 1) bk) w2 W') from used_any ⟨bk + 1 + 1 + 1, bl, bd, n, P, nt, bk, bk + 1, bk + 1 + 1⟩ F2 (openD c h ia) ws w2 HP2.out ho hx2)
    have HI := hide (show (Tryz.prog.info? 194).map (·.size) = some (mapC P ws).toArray.size from mapInfo HOk.out.len)
    have HOne := hide (all_oneCell_toArray (mapC_one P ws))
    have hz : (mapC 0 zeroWs).toArray.size = (mapC P ws).toArray.size := by rw [List.size_toArray, List.size_toArray, mapC_len rfl, mapC_len HOk.out.len]
    have HZ := hide hz
    clear hgood hc' ho hpa hx2 hz
    go_wp2_with fail
    refine HUs.out.mono ?_
    rintro e w3 ⟨rfl, hp3, hk3⟩
    have hb4 : Below w3.heap.size w3 (w3.alloc (.cells (mapC P ws).toArray 194)) := (Below.refl _ _).alloc (Nat.le_refl _) _
    have HP4 := hide (hp3.below hb4)
    have HK4 := hide (hk3.same (Kp.of_below hb4))
    clear hp3 hk3 hb4
    go_wp2_with (refine wpList_store_new w3 rfl 194 _ _ rfl _ (mapC P ws).toArray rfl rfl HI.out HZ.out HOne.out ?_)
    rw [← HR.out]
    have hsS := HBS.out.size
    refine ⟨⟨bk + 1 + 1 + 1, bl, bd, n, P, nt, bk, bk + 1, bk + 1 + 1⟩, rfl, rfl, rfl, rfl, ⟨by show W.heap.size ≤ bk + 1 + 1 + 1; omega, hbW, by show W.heap.size ≤ bk + 1; omega, by show W.heap.size ≤ bk + 1 + 1; omega, hbl⟩, rfl, F2, HP4.out, ?_, fun k hk => (HS2.out k hk).imp id (fun h => by omega)⟩
    refine (((Kp.of_below (F := F) HBS.out).trans HK2.out (fun i hi => hi.elim (fun e => .inr (by omega)) (fun hf => .inl hf))).trans HK4.out (fun i hi => .inr ?_))
    unfold TwoF at hi
    omega
end Go.Proofs.YtnnfiicmplkakaaGreatDoor
namespace Go.Proofs.YtnnfiicmplkakaaGreatDoor
open Go.RowKit Go.Shelf

/-- pages in a text -/
def entT (es : List (Nat × List Int)) : List Int := es.flatMap fun e => Pl.be 2 (e.1 : Int) ++ e.2
def foldE (f : Nat → Option (List Int)) (es : List (Nat × List Int)) : Nat → Option (List Int) := es.foldl (fun f e => setP f e.1 e.2) f
def GoodE (P : Nat) (es : List (Nat × List Int)) : Prop := ∀ e ∈ es, e.1 < P ∧ e.2.length = 512 ∧ Byt e.2
theorem entT_cons (e : Nat × List Int) (es : List (Nat × List Int)) : entT (e :: es) = Pl.be 2 (e.1 : Int) ++ (e.2 ++ entT es) := by simp [entT, List.append_assoc]
theorem entT_byt {P : Nat} {es : List (Nat × List Int)} (h : GoodE P es) : Byt (entT es) := by
  induction es with
  | nil => intro x hx; cases hx
  | cons e es ih =>
    rw [entT_cons]
    exact Byt.app (Pl.be_byt _ _) (Byt.app (h e List.mem_cons_self).2.2 (ih fun x hx => h x (List.mem_cons_of_mem _ hx)))
theorem entT_len {P : Nat} {es : List (Nat × List Int)} (h : GoodE P es) : (entT es).length = es.length * 514 := by
  induction es with
  | nil => rfl
  | cons e es ih =>
    rw [entT_cons, List.length_append, List.length_append, Pl.be_len, (h e List.mem_cons_self).2.1, ih fun x hx => h x (List.mem_cons_of_mem _ hx), List.length_cons]
    omega
theorem foldE_take (f : Nat → Option (List Int)) (es : List (Nat × List Int)) (k : Nat) (h : k < es.length) : foldE f (es.take (k + 1)) = setP (foldE f (es.take k)) es[k].1 es[k].2 := by
  unfold foldE
  rw [List.take_succ_eq_append_getElem h, List.foldl_append]
  rfl
theorem arr_at (b o c : Nat) (w : World) : (Instr.arrayAt 209 (.slice (some ⟨b, o, none⟩) 512 c)).run Tryz.prog w = .ok (.pointer (some ⟨b, o, none⟩)) w := by kernel_rfl
/-- how many bytes an opener has left -/
def bytesLeft (w : World) (bo : Nat) : Nat := match w.cell? ⟨bo, 0, none⟩ with
  | some (.slice _ n _) => n
  | _ => 0
theorem Opn.left {w : World} {bo g : Nat} {A : Option Addr} {c : Nat} {xs : List Int} {err : Int} (h : Opn w bo g A c xs err) : bytesLeft w bo = xs.length := by
  unfold bytesLeft
  rw [h.box.cell 0]
  rfl
/-- while a text is read -/
structure ImW (W w : World) (bo g bm : Nat) (es : List (Nat × List Int)) (k : Nat) : Prop where
  opn : ∃ A c, Opn w bo g A c (entT (es.drop k)) 0
  map : ∃ D, w.ownsMap Tryz.prog 3 pgR bm k D ∧ PgV D (foldE (fun _ => none) (es.take k))
  bel : Below W.heap.size W w
theorem ImW.below {W w w' : World} {bo g bm : Nat} {es : List (Nat × List Int)} {k : Nat} (h : ImW W w bo g bm es k) (hb : Below w.heap.size w w') : ImW W w' bo g bm es k := by
  obtain ⟨⟨A, c, h1⟩, ⟨D, h2, h3⟩, h4⟩ := h
  exact ⟨⟨A, c, h1.kp (F := NoF) (Kp.of_below hb) (fun h => h) (fun h => h)⟩, ⟨D, owns_kp (F := NoF) h2 (Kp.of_below hb) (fun h => h), h3⟩, h4.trans (hb.mono h4.size)⟩
def ImRes (es : List (Nat × List Int)) (W : World) (e : Ending) (W' : World) : Prop :=
  ∃ bm D, e = .returned (.tuple #[.map (some bm), .bool true]) ∧ W'.ownsMap Tryz.prog 3 pgR bm es.length D ∧ PgV D (foldE (fun _ => none) es) ∧ W.heap.size ≤ bm ∧ Below W.heap.size W W'
set_option maxHeartbeats 2000000 in
set_option maxRecDepth 20000 in
theorem images_any (sb P : Nat) (text : ByteArray) (es : List (Nat × List Int)) (W : World) (hP : P ≤ 1024) (hc : W.cell? ⟨sb, 2, none⟩ = some (.int .i64 (P : Int))) (hg : GoodE P es) (hne : 0 < es.length) (hn : es.length ≤ 1024) (ht : text = strOfNums (entT es)) :
    Calls Tryz.prog 102 #[.pointer (some ⟨sb, 0, none⟩), .string text] W (ImRes es W) := by
  have hmm := @run_makeMap Tryz.prog
  have hlen := entT_len hg
  have hbyt := entT_byt hg
  have hbs : bs text = entT es := by rw [ht, bs_nums hbyt]
  have hsz : text.size = (entT es).length := by rw [← hbs, bs_len]
  have hbsl : sb < W.heap.size := cell_lt hc
  have HG := hide hg
  have HC := hide hc
  have HB := hide hbyt
  have HL := hide hlen
  have HBs := hide hbs
  have HSz := hide hsz
  clear hg hc hbyt hlen hbs hsz ht
  go_enter Tryz.func102, Tryz.ntmps102
  obtain ⟨A5, c5, w5, hrun, hm5, hb5⟩ := conv_bytes W text
  have HM5 := hide hm5
  have HB5 := hide hb5
  clear hm5 hb5
  have HOf := hide (of_any A5 (bs text) c5 w5 HM5.out (by rw [HBs.out, HL.out]; omega))
  rw [bs_len] at HOf
  go_wp2_with fail
  refine HOf.out.mono ?_
  rintro e w6 ⟨bo, g, A6, c6, rfl, hop, hb6, hbo, hg6⟩
  rw [HBs.out] at hop
  obtain ⟨_, _, hgl, _⟩ := hop.mem (by rw [HL.out]; omega)
  have hs5 := HB5.out.size
  have hs6 := hb6.size
  have hbol := hop.box.lt
  have HI7 := hide (show ImW W (w6.alloc (.map #[] 0)) bo g w6.heap.size es 0 from
    ⟨⟨A6, c6, hop.kp (F := NoF) (Kp.of_below ((Below.refl _ _).alloc (Nat.le_refl _) _)) (fun h => h) (fun h => h)⟩, ⟨_, World.ownsMap_made _ _ _ _, PgV.empty⟩, (HB5.out.trans (hb6.mono hs5)).alloc (by omega) _⟩)
  clear hop hb6 HOf hrun HM5 HB5
  go_upto_region 3 with fail
  generalize w6.alloc (.map #[] 0) = w7 at *
  generalize w6.heap.size = bm at *
  go_loopw [] (fun wr => ∃ k : Nat, k ≤ es.length ∧ ImW W wr bo g bm es k) (fun wr => bytesLeft wr bo)
  case atStart => exact ⟨0, Nat.zero_le _, HI7.out⟩
  case round =>
    obtain ⟨k, hk, him⟩ := hrel
    have HI := hide him
    obtain ⟨A, c, hop⟩ := him.opn
    have HOp := hide hop
    have HMs := hide hop.left
    clear him hop HI7
    by_cases hlt : k < es.length
    · obtain ⟨e0, es', hdr⟩ : ∃ e0 es', es.drop k = e0 :: es' := ⟨_, _, List.drop_eq_getElem_cons hlt⟩
      have he0 : es[k] = e0 := by rw [List.drop_eq_getElem_cons hlt] at hdr; exact (List.cons.inj hdr).1
      have hes' : es.drop (k + 1) = es' := by rw [List.drop_eq_getElem_cons hlt] at hdr; exact (List.cons.inj hdr).2
      obtain ⟨g1, g2, g3⟩ := HG.out e0 (he0 ▸ List.getElem_mem hlt)
      have hfold := foldE_take (fun _ => none) es k hlt
      rw [he0] at hfold
      have HFold := hide hfold
      have HRest := hide (show entT (es.drop (k + 1)) = entT es' from by rw [hes'])
      have hr := HOp.out
      rw [hdr, entT_cons] at hr
      have HOp1 := hide hr
      rw [hdr, entT_cons] at HMs
      have hbr : Byt (Pl.be 2 (e0.1 : Int) ++ (e0.2 ++ entT es')) := by
        have := entT_byt (P := P) (es := e0 :: es') (fun x hx => HG.out x (List.mem_of_mem_drop (hdr ▸ hx)))
        rwa [entT_cons] at this
      have HBr := hide hbr
      obtain ⟨i, xs⟩ := e0
      clear hr hbr hfold hes' he0 hdr HOp
      generalize entT es' = rest at *
      have hll : (Pl.be 2 (i : Int) ++ (xs ++ rest)).length = 514 + rest.length := by rw [List.length_append, List.length_append, Pl.be_len, g2]; omega
      have d1 : decide (0 < (((Pl.be 2 (i : Int) ++ (xs ++ rest)).length : Nat) : Int)) = true := decide_eq_true (by rw [hll]; omega)
      have HLf := hide (left_any bo g A c _ 0 wr HOp1.out)
      have hTk := take_any bo g A c 2 _ wr HOp1.out (.inr (.inl rfl)) (by rw [hll]; omega) HBr.out
      have ht2 : (Pl.be 2 (i : Int) ++ (xs ++ rest)).take 2 = Pl.be 2 (i : Int) := List.take_left' (Pl.be_len _ _)
      have hd2 : (Pl.be 2 (i : Int) ++ (xs ++ rest)).drop 2 = xs ++ rest := List.drop_left' (Pl.be_len _ _)
      have hun := un_be2 i (by have : i < P := g1; omega)
      rw [ht2, hd2, hun] at hTk
      have HTk := hide hTk
      have hgi : i < P := g1
      have hw7 : IntKind.i64.wrap (i : Int) = (i : Int) := IntWalk.i64_in _ (by omega)
      have d2 : decide ((P : Int) ≤ (i : Int)) = false := decide_eq_false (by omega)
      have HX := hide (show xs.length = 512 from g2)
      have HY := hide (show Byt xs from g3)
      have HLl := hide hll
      clear hTk ht2 hd2 hun g1 g2 g3 hll
      generalize (((Pl.be 2 (i : Int) ++ (xs ++ rest)).length : Nat) : Int) = ll at *
      go_wp2_with fail
      refine HLf.out.mono ?_
      rintro e w' ⟨rfl, rfl⟩
      go_wp2_with fail
      refine HTk.out.mono ?_
      rintro e w8 ⟨rfl, A8, c8, hop8, hk8⟩
      have hGo : ∀ j, OnlyF bo j → W.heap.size ≤ j := fun j hj => by have hj : j = bo := hj; omega
      obtain ⟨D8, hm8, hv8⟩ := HI.out.map
      have HM8 := hide (owns_kp hm8 hk8 (fun e => by have e : bm = bo := e; omega))
      have HV8 := hide hv8
      have HB8 := hide (HI.out.bel.trans (hk8.below HI.out.bel.size hGo))
      have HOp8 := hide hop8
      have HMs8 := hide hk8.size
      clear hop8 hk8 hm8 hv8 HLf HTk
      have hTx := otext_any bo g A8 c8 512 (xs ++ rest) w8 HOp8.out (by rw [List.length_append, HX.out]; omega)
      have ht5 : (xs ++ rest).take 512 = xs := List.take_left' HX.out
      have hd5 : (xs ++ rest).drop 512 = rest := List.drop_left' HX.out
      rw [ht5, hd5] at hTx
      have HTx := hide hTx
      clear hTx ht5 hd5
      go_wp2_with fail
      refine HTx.out.mono ?_
      rintro e w9 ⟨rfl, A9, c9, hop9, hk9⟩
      have HM9 := hide (owns_kp HM8.out hk9 (fun e => by have e : bm = bo := e; omega))
      have HB9 := hide (HB8.out.trans (hk9.below HB8.out.size hGo))
      have HOp9 := hide hop9
      clear hop9 hk9 HTx HM8 HB8 HOp8
      have c2 : w9.cell? ⟨sb, 2, none⟩ = some (.int .i64 (P : Int)) := (HB9.out.cell (p := ⟨sb, 2, none⟩) hbsl).trans HC.out
      have HEr := hide (err_any bo g A9 c9 rest 0 w9 HOp9.out)
      obtain ⟨At, ct, wt, hrun, hmt, hbt⟩ := conv_bytes w9 (strOfNums xs)
      rw [bs_nums HY.out] at hmt
      rw [strOfNums_size, HX.out] at hrun
      obtain ⟨ba, oa, rfl, _, _⟩ := hmt.get (by rw [bv_len, HX.out]; decide)
      have HMt := hide (mem_range hmt)
      have HOt := hide (HOp9.out.kp (F := NoF) (Kp.of_below hbt) (fun h => h) (fun h => h))
      have HMm := hide (owns_kp (F := NoF) HM9.out (Kp.of_below hbt) (fun h => h))
      have HBt := hide (HB9.out.trans (hbt.mono HB9.out.size))
      have HSt := hide hbt.size
      clear hmt hbt
      have hat := arr_at ba oa ct
      have HI0 := hide (show (Tryz.prog.info? 209).map (·.size) = some (bv xs).length from by rw [bv_len, HX.out]; exact pageInfo)
      have HWf := hide (show (Lit.int .i64 (i : Int)).wf = true from WalkArith.wf_i64 (by omega))
      have HXb := hide (show (pgR (pgV xs)) = some (pgD xs, []) from pgR_val _ HX.out)
      go_wp2_with (first | (go_at_call 36; refine HEr.out.mono ?_; rintro e w' ⟨rfl, rfl⟩) | (refine wpList_load_mid rfl 209 _ rfl ba oa rfl (bv xs) _ HMt.out Tryz.underlying209 rfl HI0.out ?_) | (at_mapUpdate; refine wpList_mapUpdate_own _ rfl _ _ _ 157 rfl 3 209 (Maps.int_keyed Tryz.underlying3) Tryz.underlying157 pgR bm k D8 rfl HMm.out (by unfold maxLen; omega) (.int .i64 (i : Int)) (pgV xs) (.int .i64 (i : Int)) rfl rfl (Maps.keyOf_int_mk Tryz.underlying3 HWf.out) (pgD xs) [] HXb.out ?_; intro w5 hown5 hgrow5))
      have hk5 : Kp (OnlyF bm) wt w5 := (Kp.refl _ _).grown hgrow5 (fun k hk => .inl (by cases hk; rfl))
      have HOp5 := hide (HOt.out.kp hk5 (fun e => by have e : bo = bm := e; omega) (fun e => by have e : g = bm := e; omega))
      have HI5 := hide (show ImW W w5 bo g bm es (k + 1) from ⟨⟨A9, c9, by rw [HRest.out]; exact HOp5.out⟩, ⟨_, hown5, by rw [HFold.out]; exact HV8.out.put HMm.out.isMap i xs (by omega) HX.out HY.out⟩, HBt.out.trans (hk5.below HBt.out.size (fun j hj => by have hj : j = bm := hj; omega))⟩)
      clear hown5 hgrow5 hk5
      simp only [Act.put, List.setIfInBounds_toArray, List.set_cons_zero, List.set_cons_succ]
      go_roundw
      case rel => exact ⟨k + 1, by omega, HI5.out⟩
      case measure =>
        have := HLl.out
        rw [HOp5.out.left, HMs.out]
        omega
    · obtain rfl : k = es.length := by omega
      have hdr : es.drop es.length = [] := List.drop_of_length_le (Nat.le_refl _)
      have hop := HOp.out
      rw [hdr] at hop
      have HLf := hide (left_any bo g A c _ 0 wr hop)
      obtain ⟨D8, hm8, hv8⟩ := HI.out.map
      rw [List.take_of_length_le (Nat.le_refl _)] at hv8
      have HM8 := hide hm8
      have HV8 := hide hv8
      clear hop hm8 hv8
      go_wp2_with fail
      refine HLf.out.mono ?_
      rintro e w' ⟨rfl, rfl⟩
      go_wp2_with fail
      exact bodyPost_ret (v := .tuple #[.map (some bm), .bool true]) (by simp [results, Tryz.results102, go_sem]) rfl ⟨bm, D8, rfl, HM8.out, HV8.out, by omega, HI.out.bel⟩
end Go.Proofs.YtnnfiicmplkakaaGreatDoor
namespace Go.Proofs.YtnnfiicmplkakaaGreatDoor
open Go.RowKit Go.Shelf Go.Lib

/-- the disk behind the writing of pages -/
def putPg (c : Nat → List Int) (L : Nat) (f : Nat → Option (List Int)) (ks : List Nat) : Nat → List Int := ks.foldl (fun c k => upd c (2 + L + k) ((f k).getD [])) c
theorem putPg_take (c : Nat → List Int) (L : Nat) (f : Nat → Option (List Int)) (ks : List Nat) (k : Nat) (h : k < ks.length) : putPg c L f (ks.take (k + 1)) = upd (putPg c L f (ks.take k)) (2 + L + ks[k]) ((f ks[k]).getD []) := by
  unfold putPg
  rw [List.take_succ_eq_append_getElem h, List.foldl_append]
  rfl
/-- while pages are written; w3: behind the sort -/
structure WrW (W w3 wr : World) (bd n : Nat) (F G : Nat → Prop) (c : Nat → List Int) (m : Nat) : Prop where
  ds : Ds wr bd n G c m
  kp : Kp F w3 wr
  sub : ∀ j, G j → F j ∨ w3.heap.size ≤ j
set_option maxHeartbeats 2000000 in
set_option maxRecDepth 20000 in
theorem written_any (sb bl bd n : Nat) (F : Nat → Prop) (c : Nat → List Int) (m : Nat) (h : Hd) (at_ next used : Int) (bm q : Nat) (D : DataW Unit) (f : Nat → Option (List Int)) (ks : List Nat) (P : Nat) (W : World)
    (hs0 : W.cell? ⟨sb, 0, none⟩ = some (.pointer (some ⟨bl, 0, none⟩))) (hs1 : W.cell? ⟨sb, 1, none⟩ = some (.pointer (some ⟨bd, 0, none⟩))) (hl : Lg W bl bd h at_ next used) (hd : Ds W bd n F c m) (hm : m + ks.length ≤ 90000) (hsec : h.sec ≤ 60000)
    (hmap : W.ownsMap Tryz.prog 3 pgR bm q D) (hv : PgV D f) (hr : Rising f ks) (hkl : ks.length ≤ 1024) (hks : ∀ k ∈ ks, k < P) (hn : 2 + h.sec + P ≤ n) (hP : P ≤ 1024) (hFs : ¬ F sb) (hFl : ¬ F bl) (hFm : ¬ F bm) :
    Calls Tryz.prog 103 #[.pointer (some ⟨sb, 0, none⟩), .map (some bm)] W (DsRes bd n F (putPg c h.sec f ks) (m + ks.length) W) := by
  have hz : ∀ w, (zeroValue 209).run Tryz.prog w = .ok (pgV (zeros 512)) w := fun w => by
    have := Tryz.zeroValue209 w
    rw [this, zpage]
    rfl
  have HZ := hide hz
  have hF0 : ∀ k, F k → k < W.heap.size := fun k hk => hd.lt hk
  have hsbl := cell_lt hs0
  have hbll := hl.whole.lt
  have hbml := hmap.lt
  have HS0 := hide hs0
  have HS1 := hide hs1
  have HLg := hide hl
  have HD := hide hd
  have HM := hide hmap
  have HV := hide hv
  have HRi := hide hr
  have HKs := hide hks
  clear hz hs0 hs1 hl hd hmap hv hr hks
  go_enter Tryz.func103, Tryz.ntmps103
  go_wp2_with fail
  refine (pkeys_any bm W).mono ?_
  rintro e w2 ⟨rfl, rfl⟩
  go_wp2_with fail
  have hperm := HV.out.perm HM.out HRi.out
  have hsize := HV.out.size HM.out HRi.out
  refine (psorted_any bm q D W HM.out (by rw [hsize]; omega)).mono ?_
  rintro e w3 ⟨v, ss, rfl, hss, hrow, hb3⟩
  have hlen : ss.length = ks.length := by
    have h1 := hss.length_eq
    have h2 := hperm.length_eq
    rw [castL, List.length_map] at h2
    omega
  have hrow2 : w3.ownsRow (W.heap.size + 1) 3 1 v ss.length ((ss.mergeSort (fun x y => decide (x ≤ y))).map (Value.int .i64)) := hrow
  rw [sorted_keys hperm HRi.out.up hss, hlen] at hrow2
  obtain ⟨A, cc, rfl⟩ := owns_slice hrow2
  have hb13 : Below W.heap.size W w3 := ((Below.refl W.heap.size W).alloc (Nat.le_refl _) (.cells #[.map (some bm)] 157)).trans (hb3.mono (Nat.le_succ _))
  have HB13 := hide hb13
  have HRow := hide hrow2
  have HW3 := hide (show WrW W w3 w3 bd n F F (putPg c h.sec f (ks.take 0)) (m + 0) from ⟨HD.out.below hb13, Kp.refl _ _, fun j hj => .inl hj⟩)
  have hsz3 := hb13.size
  clear hss hrow hrow2 hb3 hb13 hperm hsize hlen
  go_wp2_with fail
  go_loopw [13] (fun x wr => ∃ k : Nat, k ≤ ks.length ∧ x = .int .i64 k ∧ ∃ G, WrW W w3 wr bd n F G (putPg c h.sec f (ks.take k)) (m + k)) (fun x _ => ks.length - (Go.RowKit.intOf x).toNat)
  case atStart => exact ⟨0, Nat.zero_le _, rfl, F, HW3.out⟩
  case round =>
    obtain ⟨k, hk, rfl, G, hwr⟩ := hrel
    have HWr := hide hwr
    have hKW := (Kp.of_below (F := F) HB13.out).same hwr.kp
    have HKW := hide hKW
    clear hwr hKW HW3
    by_cases hlt : k < ks.length
    · obtain ⟨xs, hxs⟩ := Option.isSome_iff_exists.1 ((HRi.out.mem _).1 (List.getElem_mem hlt))
      have hstep := putPg_take c h.sec f ks k hlt
      rw [hxs] at hstep
      have hstep : putPg c h.sec f (ks.take (k + 1)) = upd (putPg c h.sec f (ks.take k)) (2 + h.sec + ks[k]) xs := hstep
      have hik := HKs.out _ (List.getElem_mem hlt)
      have hmr := owns_kp HM.out HKW.out hFm
      obtain ⟨v0, ps, hrun, hv0⟩ := hmr.lookup (Maps.int_keyed Tryz.underlying3) Tryz.underlying157 (HZ.out wr) (pgR_val _ zeros_len) (key := .int .i64 (ks[k] : Nat)) (kl := .int .i64 (ks[k] : Nat)) (Maps.keyOf_int_mk Tryz.underlying3 (WalkArith.wf_i64 (by omega)))
      obtain ⟨rfl, hl, hby⟩ := HV.out.found hxs hv0
      unfold pgV at hrun
      obtain ⟨g, rfl, hg0, hg1, hgc⟩ := owns_form HRow.out (by rw [List.length_map, castL, List.length_map]; omega)
      have hcell : wr.cell? ⟨g, k, none⟩ = some (.int .i64 (ks[k] : Nat)) := by
        rw [HWr.out.kp.cell (p := ⟨g, k, none⟩) hg1 (fun e => by have := hF0 _ e; have e' : g < W.heap.size := this; omega), hgc k (by rw [List.length_map, castL, List.length_map]; exact hlt), castL_get ks k hlt]
      have HStep := hide hstep
      have HLx := hide hl
      have HBy := hide hby
      have HFa := hide (page_facts hl)
      have HW5 := hide (show Whole (wr.alloc (.cells (bv xs).toArray 209)) wr.heap.size _ _ from Whole.new wr (bv xs) 209)
      have HB5 := hide (show Below wr.heap.size wr (wr.alloc (.cells (bv xs).toArray 209)) from (Below.refl _ _).alloc (Nat.le_refl _) _)
      have hGr : ∀ j, G j → j < wr.heap.size := fun j hj => HWr.out.ds.lt hj
      have hszr := HKW.out.size
      have hsz3r := HWr.out.kp.size
      have HD5 := hide (HWr.out.ds.below HB5.out)
      have HSub := hide HWr.out.sub
      have HK5 := hide (HWr.out.kp.trans (Kp.of_below (F := NoF) HB5.out) (fun i hi => hi.elim))
      have HKW5 := hide (HKW.out.trans (Kp.of_below (F := NoF) HB5.out) (fun i hi => hi.elim))
      clear hmr hv0 hl hby hgc hstep hxs
      generalize ks[k] = i at *
      go_upto_region 5 with (refine wpList_store_new wr rfl 209 _ _ rfl Tryz.zeroCells209 (bv xs).toArray rfl rfl HFa.out.1 HFa.out.2.1 HFa.out.2.2 ?_)
      clear hrun hcell
      generalize wr.alloc (.cells (bv xs).toArray 209) = w5 at *
      have hb5 := HW5.out.lt
      generalize wr.heap.size = b5 at *
      have hGs : ¬ G sb := fun hg => (HSub.out _ hg).elim hFs (fun e => by omega)
      have hGl : ¬ G bl := fun hg => (HSub.out _ hg).elim hFl (fun e => by omega)
      have hG5 : ¬ G b5 := fun hg => by have := hGr _ hg; omega
      have y0 : w5.cell? ⟨sb, 0, none⟩ = _ := (HKW5.out.cell (p := ⟨sb, 0, none⟩) hsbl hFs).trans HS0.out
      have y1 : w5.cell? ⟨sb, 1, none⟩ = _ := (HKW5.out.cell (p := ⟨sb, 1, none⟩) hsbl hFs).trans HS1.out
      have HL5 := hide (HLg.out.kp HKW5.out hFl)
      have hsbl5 : sb < w5.heap.size := Nat.lt_of_lt_of_le hsbl HKW5.out.size
      have hbll5 : bl < w5.heap.size := Nat.lt_of_lt_of_le hbll HKW5.out.size
      refine wp_region_held_drew (S := (fun w' => Kp G w5 w')) (by kernel_rfl) ((Kp.refl G w5).drew) (fun hHeld => ?_)
      have HWrt := hide ((HD5.out.kp (Kp.of_below (F := NoF) (Below.refl w5.heap.size w5).drew) (fun _ _ h => h)).write (by omega) (i := 2 + h.sec + i) (by omega) (some ⟨b5, 0, none⟩) 512 xs (show Mem w5.drew w5.drew.heap.size (some ⟨b5, 0, none⟩) (bv xs) from HW5.out.mem) HLx.out HBy.out (fun b off e => by cases e; exact hG5))
      generalize w5.drew = wd at *
      refine wpAnyH_take (i := 0) (v := ?vaq1) rfl (by kernel_rfl) (by kernel_rfl) (by kernel_rfl) (fun _ _ _ h => h) (Or.inl ⟨by rfl, ?haq1⟩) (by assumption) ?raq1
      case haq1 => (intro wq hSw; go_simp; (try with_reducible rfl))
      try simp only [Act.put, List.getElem_toArray, List.getElem_cons_zero, List.setIfInBounds_toArray, List.set_cons_zero, List.set_cons_succ]
      refine wpAnyH_take (i := 1) (v := ?vaq2) rfl (by kernel_rfl) (by kernel_rfl) (by kernel_rfl) (fun _ _ _ h => h) (Or.inl ⟨by rfl, ?haq2⟩) (by assumption) ?raq2
      case haq2 => (intro wq hSw; go_simp; (try with_reducible rfl))
      try simp only [Act.put, List.getElem_toArray, List.getElem_cons_zero, List.getElem_cons_succ, List.setIfInBounds_toArray, List.set_cons_zero, List.set_cons_succ]
      refine wpAnyH_take (i := 2) (v := ?vaq3) rfl (by kernel_rfl) (by kernel_rfl) (by kernel_rfl) (fun _ _ _ h => h) (Or.inl ⟨by rfl, ?haq3⟩) (by assumption) ?raq3
      case haq3 => (intro wq hSw; go_simp; (try with_reducible rfl))
      try simp only [Act.put, List.getElem_toArray, List.getElem_cons_zero, List.getElem_cons_succ, List.setIfInBounds_toArray, List.set_cons_zero, List.set_cons_succ]
      refine wpAnyH_take (i := 3) (v := ?vaq4) rfl (by kernel_rfl) (by kernel_rfl) (by kernel_rfl) (fun _ _ _ h => h) (Or.inl ⟨by rfl, ?haq4⟩) (by assumption) ?raq4
      case haq4 => (intro wq hSw; have e0 := (hSw.cell (p := ⟨sb, 0, none⟩) hsbl5 hGs).trans y0; have e1 := (hSw.cell (p := ⟨sb, 1, none⟩) hsbl5 hGs).trans y1; go_simp; (try with_reducible rfl))
      try simp only [Act.put, List.getElem_toArray, List.getElem_cons_zero, List.getElem_cons_succ, List.setIfInBounds_toArray, List.set_cons_zero, List.set_cons_succ]
      refine wpAnyH_take (i := 4) (v := ?vaq5) rfl (by kernel_rfl) (by kernel_rfl) (by kernel_rfl) (fun _ _ _ h => h) (Or.inl ⟨by rfl, ?haq5⟩) (by assumption) ?raq5
      case haq5 => (intro wq hSw; go_simp; (try with_reducible rfl))
      try simp only [Act.put, List.getElem_toArray, List.getElem_cons_zero, List.getElem_cons_succ, List.setIfInBounds_toArray, List.set_cons_zero, List.set_cons_succ]
      refine wpAnyH_take (i := 5) (v := ?vaq6) rfl (by kernel_rfl) (by kernel_rfl) (by kernel_rfl) (fun _ _ _ h => h) (Or.inl ⟨by rfl, ?haq6⟩) (by assumption) ?raq6
      case haq6 => (intro wq hSw; go_simp; (try with_reducible rfl))
      try simp only [Act.put, List.getElem_toArray, List.getElem_cons_zero, List.getElem_cons_succ, List.setIfInBounds_toArray, List.set_cons_zero, List.set_cons_succ]
      refine wpAnyH_take (i := 6) (v := ?vaq7) rfl (by kernel_rfl) (by kernel_rfl) (by kernel_rfl) (fun _ _ _ h => h) (Or.inl ⟨by rfl, ?haq7⟩) (by assumption) ?raq7
      case haq7 => (intro wq hSw; go_simp; (try with_reducible rfl))
      try simp only [Act.put, List.getElem_toArray, List.getElem_cons_zero, List.getElem_cons_succ, List.setIfInBounds_toArray, List.set_cons_zero, List.set_cons_succ]
      refine wpAnyH_take (i := 7) (v := ?vaq8) rfl (by kernel_rfl) (by kernel_rfl) (by kernel_rfl) (fun _ _ _ h => h) (Or.inl ⟨by rfl, ?haq8⟩) (by assumption) ?raq8
      case haq8 => (intro wq hSw; have e0 := (hSw.cell (p := ⟨sb, 0, none⟩) hsbl5 hGs).trans y0; have e1 := (hSw.cell (p := ⟨sb, 1, none⟩) hsbl5 hGs).trans y1; go_simp; (try with_reducible rfl))
      try simp only [Act.put, List.getElem_toArray, List.getElem_cons_zero, List.getElem_cons_succ, List.setIfInBounds_toArray, List.set_cons_zero, List.set_cons_succ]
      refine wpAnyH_take (i := 9) (v := ?vaq9) rfl (by kernel_rfl) (by kernel_rfl) (by kernel_rfl) (fun _ _ _ h => h) (Or.inl ⟨by rfl, ?haq9⟩) (by assumption) ?raq9
      case haq9 => (intro wq hSw; go_simp; (try with_reducible rfl))
      try simp only [Act.put, List.getElem_toArray, List.getElem_cons_zero, List.getElem_cons_succ, List.setIfInBounds_toArray, List.set_cons_zero, List.set_cons_succ]
      refine wpAnyH_take (i := 11) (v := ?vaq10) rfl (by kernel_rfl) (by kernel_rfl) (by kernel_rfl) (fun _ _ _ h => h) (Or.inl ⟨by rfl, ?haq10⟩) (by assumption) ?raq10
      case haq10 => (intro wq hSw; go_simp; (try with_reducible rfl))
      try simp only [Act.put, List.getElem_toArray, List.getElem_cons_zero, List.getElem_cons_succ, List.setIfInBounds_toArray, List.set_cons_zero, List.set_cons_succ]
      refine wpAnyH_ready (rs := [8]) (by kernel_rfl) (by simp) ?_
      refine AllReadyH.cons (o := _) rfl (fun K hK => ?_) ?_
      · skip
        go_simp
        refine (lsec_any (HL5.out.kp hHeld hGl)).mono ?_
        rintro e wo ⟨rfl, rfl⟩
        refine hK.out _ _ (hHeld) (fun hHeld => ?_)
        clear hK K 
        try simp only [Act.put, List.getElem_toArray, List.getElem_cons_zero, List.getElem_cons_succ, List.setIfInBounds_toArray, List.set_cons_zero, List.set_cons_succ]
        refine wpAnyH_ready (rs := [10]) (by kernel_rfl) (by simp) ?_
        refine AllReadyH.cons (o := _) rfl (fun K hK => ?_) ?_
        · skip
          go_simp
          refine (sector_any h.sec i wd (by omega) (by omega)).mono ?_
          rintro e wo ⟨rfl, rfl⟩
          refine hK.out _ _ (hHeld) (fun hHeld => ?_)
          clear hK K 
          try simp only [Act.put, List.getElem_toArray, List.getElem_cons_zero, List.getElem_cons_succ, List.setIfInBounds_toArray, List.set_cons_zero, List.set_cons_succ]
          refine wpAnyH_ready (rs := [12]) (by kernel_rfl) (by simp) ?_
          refine AllReadyH.cons (o := _) rfl (fun K hK => ?_) ?_
          · skip
            go_simp
            refine (HWrt.out).mono ?_
            rintro e w6 ⟨rfl, G6, g1, g2, g3⟩
            have HZd := hide (show w5.heap.size ≤ wd.heap.size from hHeld.size)
            have HD6 := hide g1
            have HK6 := hide (hHeld.same g2)
            have HS6 := hide g3
            clear g1 g2 g3
            refine hK.out _ _ (HK6.out) (fun hHeld => ?_)
            clear hK K 
            try simp only [Act.put, List.getElem_toArray, List.getElem_cons_zero, List.getElem_cons_succ, List.setIfInBounds_toArray, List.set_cons_zero, List.set_cons_succ]
            refine wpAnyH_take (i := 13) (v := ?vaq11) rfl (by kernel_rfl) (by kernel_rfl) (by kernel_rfl) (fun _ _ _ h => h) (Or.inl ⟨by rfl, ?haq11⟩) (by assumption) ?raq11
            case haq11 => (intro wq hSw; go_simp; (try with_reducible rfl))
            try simp only [Act.put, List.getElem_toArray, List.getElem_cons_zero, List.getElem_cons_succ, List.setIfInBounds_toArray, List.set_cons_zero, List.set_cons_succ]
            refine wpAnyH_done (by kernel_rfl) ?_ _
            clear hHeld HWrt
            have HWn := hide (show WrW W w3 w6 bd n F G6 (putPg c h.sec f (ks.take (k + 1))) (m + (k + 1)) from ⟨by rw [HStep.out]; exact HD6.out, HK5.out.trans HK6.out HSub.out, fun j hj => (HS6.out j hj).elim (HSub.out j) (fun hge => .inr (by have := HZd.out; omega))⟩)
            go_wp2_with fail
            go_roundw
            case rel => exact ⟨k + 1, by omega, by go_num, G6, HWn.out⟩
            case measure => simp [Go.RowKit.intOf]; omega
          exact AllReadyH.nil
        exact AllReadyH.nil
      exact AllReadyH.nil
    · obtain rfl : k = ks.length := by omega
      have hwr := HWr.out
      rw [List.take_of_length_le (Nat.le_refl _)] at hwr
      have HWf := hide hwr
      clear hwr
      go_wp2_with fail
      go_ret
      exact ⟨rfl, G, HWf.out.ds, HKW.out, fun j hj => (HWf.out.sub j hj).imp id (fun h => Nat.le_trans hsz3 h)⟩
end Go.Proofs.YtnnfiicmplkakaaGreatDoor
namespace Go.Proofs.YtnnfiicmplkakaaGreatDoor
open Go.RowKit Go.Shelf

theorem bWrite (B b : Nat) (bs : List Value) (s : ByteArray) (w : World) (h : Lib.IsBuilderF 131 5 B b bs w) (hlen : bs.length + s.size ≤ 140737488355328) (hBw : B ≤ w.heap.size) :
    Calls Tryz.prog 59 #[.pointer (some ⟨b, 0, none⟩), .string s] w fun e w' => e = .returned (.tuple #[.int .i64 s.size, .nilIface]) ∧ (Lib.BuilderAtF 131 5 B b (.pointer (some ⟨b, 0, none⟩)) (bs ++ Lib.strCells s) w' ∧ Below B w w' ∧ Lib.OthersKept 5 (some b) w w') :=
  Any.Builder_WriteString_k { Tryz.lays105 with } extra B b bs s w h hlen hBw
theorem bString (B b : Nat) (l : List UInt8) (w : World) (h : Lib.IsBuilderF 131 5 B b (Lib.byteCells l) w) (hBw : B ≤ w.heap.size) :
    Calls Tryz.prog 60 #[.pointer (some ⟨b, 0, none⟩)] w fun e w' => e = .returned (.string ⟨l.toArray⟩) ∧ (Lib.IsBuilderF 131 5 B b (Lib.byteCells l) w' ∧ Below B w w' ∧ Lib.OthersKept 5 (some b) w w') :=
  Any.Builder_String_any_k { Tryz.lays105 with } extra B b l w h hBw
theorem Sh.data_inj {s s' : Sh} (h : s.data = s'.data) : s = s' := by
  unfold Sh.data at h
  injection h with h
  injection h with h1 h
  injection h with h2 h
  injection h with h3 h
  injection h1 with h1
  injection h1 with _ h1
  injection h2 with h2
  injection h2 with h2
  injection h3 with h3
  injection h3 with h3
  obtain ⟨a, b, c⟩ := s
  obtain ⟨a', b', c'⟩ := s'
  have h4 : c = c' := ByteArray.ext (Array.toList_inj.1 h3)
  cases h1
  cases h2
  cases h4
  rfl
theorem u64_key (q : Int) : WideAt.IsKeyLit (.int .u64 q) := by simp [WideAt.IsKeyLit]
/-- a map of sheets, as a function -/
structure ShV (D : DataW Unit) (f : Int → Option Sh) : Prop where
  map : Maps.IsMap D
  some_ : ∀ q s, f q = some s → Maps.has D (.int .u64 q) = true ∧ ∀ z, D.atKey (.int .u64 q) z = s.data
  none_ : ∀ q, f q = none → Maps.has D (.int .u64 q) = false
def setS (f : Int → Option Sh) (s : Sh) : Int → Option Sh := fun q => if q = s.seq then some s else f q
theorem ShV.empty : ShV (.map []) (fun _ => none) := ⟨⟨_, rfl⟩, fun i xs h => (by cases h), fun _ _ => rfl⟩
theorem ShV.put {D : DataW Unit} {f : Int → Option Sh} (h : ShV D f) (s : Sh) : ShV (D.put (.int .u64 s.seq) s.data) (setS f s) := by
  refine ⟨h.map.put _ _, fun j ys hj => ?_, fun j hj => ?_⟩
  · unfold setS at hj
    by_cases e : j = s.seq
    · subst e
      rw [if_pos rfl] at hj
      cases hj
      exact ⟨Maps.has_put_same h.map (u64_key _) _, fun z => Maps.atKey_put_same h.map (u64_key _) _ z⟩
    · rw [if_neg e] at hj
      obtain ⟨h1, h2⟩ := h.some_ j ys hj
      have hne : (Lit.int .u64 j) ≠ .int .u64 s.seq := fun h => by injection h; exact e (by assumption)
      exact ⟨(Maps.has_put_other hne _).trans h1, fun z => (Maps.atKey_put_other hne _ z).trans (h2 z)⟩
  · unfold setS at hj
    by_cases e : j = s.seq
    · rw [if_pos e] at hj; cases hj
    · rw [if_neg e] at hj
      have hne : (Lit.int .u64 j) ≠ .int .u64 s.seq := fun h => by injection h; exact e (by assumption)
      exact (Maps.has_put_other hne _).trans (h.none_ j hj)
theorem ShV.found {D : DataW Unit} {f : Int → Option Sh} (h : ShV D f) {q : Int} {s : Sh} (hf : f q = some s) {v : Value} {ps : List MemPlace} {z : DataW Unit} (hv : shR v = some (D.atKey (.int .u64 q) z, ps)) : v = s.val := by
  obtain ⟨s', rfl⟩ := shR_inv _ _ hv
  rw [shR_val, (h.some_ q s hf).2 z] at hv
  injection hv with hv
  injection hv with hv _
  rw [Sh.data_inj hv]
/-- the sheets that lie in their places -/
def fTo (xs : Nat → Option Sh) (sec : Nat) : Nat → Int → Option Sh
  | 0 => fun _ => none
  | k + 1 => match xs k with
    | none => fTo xs sec k
    | some s => if s.seq % sec = k then setS (fTo xs sec k) s else fTo xs sec k
theorem shTo_view (xs : Nat → Option Sh) (sec k : Nat) : ShV (shTo xs sec k) (fTo xs sec k) := by
  induction k with
  | zero => exact ShV.empty
  | succ k ih =>
    unfold shTo fTo shStep
    cases xs k with
    | none => exact ih
    | some s =>
      show ShV (if _ then _ else _) (if _ then _ else _)
      split
      · exact ih.put s
      · exact ih
/-- whole texts, and what is begun, behind so many sheets -/
def roll (t : Nat → Sh) : Nat → List ByteArray × List UInt8
  | 0 => ([], [])
  | k + 1 => if (t k).last then ((roll t k).1 ++ [⟨((roll t k).2 ++ (t k).text.data.toList).toArray⟩], []) else ((roll t k).1, (roll t k).2 ++ (t k).text.data.toList)
theorem roll_len (t : Nat → Sh) (k : Nat) : (roll t k).1.length ≤ k := by
  induction k with
  | zero => exact Nat.le_refl _
  | succ k ih => unfold roll; split <;> simp <;> omega
theorem roll_cur (t : Nat → Sh) (k : Nat) (h : ∀ i, i < k → (t i).text.size ≤ 497) : (roll t k).2.length ≤ 497 * k := by
  induction k with
  | zero => exact Nat.le_refl _
  | succ k ih =>
    have h1 := ih fun i hi => h i (by omega)
    have h2 := h k (by omega)
    unfold roll
    split
    · simp
    · rw [List.length_append, size_list]
      omega
theorem strCells_list (s : ByteArray) : Lib.strCells s = Lib.byteCells s.data.toList := rfl
theorem bytes_app (a b : List UInt8) : Lib.byteCells (a ++ b) = Lib.byteCells a ++ Lib.byteCells b := by simp [Lib.byteCells]
/-- behind Reset -/
theorem breset_any (b : Nat) (p v : Value) (w : World) (h : Whole w b 131 [p, v]) : Calls Tryz.prog 61 #[.pointer (some ⟨b, 0, none⟩)] w fun e w' => e = .returned (.tuple #[]) ∧ Whole w' b 131 [.pointer none, .slice none 0 0] ∧ Kp (OnlyF b) w w' := by
  have HW := hide h
  have c0 := h.cell 0
  have c1 := h.cell 1
  have f0 := h.frozen 0
  have f1 := h.frozen 1
  clear h
  go_enter Tryz.func61, Tryz.ntmps61
  go_wp2_with fail
  go_end0
  exact ⟨rfl, (HW.out.set_ 0 _).set_ 1 _, ((Kp.refl (OnlyF b) w).setCell (p := ⟨b, 0, none⟩) (.inl rfl) _).setCell (p := ⟨b, 1, none⟩) (.inl rfl) _⟩
theorem bfresh {w : World} {B b : Nat} (hB : B ≤ b) (h : Whole w b 131 [.pointer none, .slice none 0 0]) : Lib.IsBuilderF 131 5 B b (Lib.byteCells []) w := by
  refine .inl ⟨hB, .slice none 0 0, h, ?_, by simp [Value.ownBlock]⟩
  exact ⟨rfl, .inl ⟨rfl, rfl⟩⟩
/-- while texts are put together -/
structure TxW (W w : World) (bm n : Nat) (D : DataW Unit) (y : Value) (out : List ByteArray) (cur : List UInt8) : Prop where
  map : w.ownsMap Tryz.prog 66 shR bm n D
  own : w.ownsRow (W.heap.size + 1) 9 1 y out.length (strs out)
  bld : Lib.IsBuilderF 131 5 W.heap.size W.heap.size (Lib.byteCells cur) w
  bel : Below W.heap.size W w
theorem shmap_kp {F : Nat → Prop} {w w' : World} {bm n : Nat} {D : DataW Unit} (h : w.ownsMap Tryz.prog 66 shR bm n D) (hk : Kp F w w') (hn : ¬ F bm) : w'.ownsMap Tryz.prog 66 shR bm n D := by
  obtain ⟨es, clock, h1, h2⟩ := h
  exact ⟨es, clock, (hk.block bm (Array.getElem?_eq_some_iff.1 h1).1 hn).trans h1, h2⟩
theorem shmap_below {w w' : World} {B bm n : Nat} {D : DataW Unit} (h : w.ownsMap Tryz.prog 66 shR bm n D) (hb : Below B w w') (hB : bm < B) : w'.ownsMap Tryz.prog 66 shR bm n D := by
  obtain ⟨es, clock, h1, h2⟩ := h
  exact ⟨es, clock, (hb.block bm hB).trans h1, h2⟩
theorem owns_others {w w' : World} {base size n b : Nat} {e e' : TypeId} {v : Value} {xs : List Value} (h : w.ownsRow base e size v n xs) (hk : Lib.OthersKept e' (some b) w w') (hb : b < base) (he : e ≠ e') : w'.ownsRow base e size v n xs := by
  refine owns_block h fun g hg => ?_
  rcases h.2 with ⟨rfl, rfl⟩ | ⟨g', cap, cur, rfl, hbg, hc, _⟩
  · cases hg
  · cases hg
    rw [hc]
    exact hk _ _ hc (fun e => by injection e with e; have e : g' = b := e; omega) (fun c fz e => by injection e with _ e _; exact he e)
theorem builder_whole {w : World} {T e : TypeId} {B b : Nat} {bs : List Value} (h : Lib.IsBuilderF T e B b bs w) : ∃ p v, Whole w b T [p, v] := by
  rcases h with ⟨_, v, h, _⟩ | ⟨_, v, h, _⟩
  · exact ⟨_, _, h⟩
  · exact ⟨_, _, h⟩
theorem builder_alloc {w : World} {T e : TypeId} {B b : Nat} {bs : List Value} (h : Lib.IsBuilderF T e B b bs w) (o : Obj) : Lib.IsBuilderF T e B b bs (w.alloc o) := h.imp (fun h => h.alloc o) (fun h => h.alloc o)
theorem TxW.alloc {W w : World} {bm n : Nat} {D : DataW Unit} {y : Value} {out : List ByteArray} {cur : List UInt8} (h : TxW W w bm n D y out cur) (o : Obj) : TxW W (w.alloc o) bm n D y out cur := ⟨h.map.alloc o, h.own.alloc o, builder_alloc h.bld o, h.bel.alloc h.bel.size o⟩
/-- behind texts -/
def TextsRes (ts : List ByteArray) (W : World) (e : Ending) (W' : World) : Prop := ∃ v, e = .returned v ∧ W'.ownsRow (W.heap.size + 1) 9 1 v ts.length (strs ts) ∧ Below W.heap.size W W'
theorem infoStr : (Tryz.prog.info? 9).map (fun i => (i.zero, i.size, i.bytes)) = some (some (.string ByteArray.empty), 1, 16) := by kernel_rfl
set_option maxHeartbeats 4000000 in
set_option maxRecDepth 20000 in
theorem texts_any (bm n : Nat) (D : DataW Unit) (f : Int → Option Sh) (t : Nat → Sh) (m : Nat) (first : Int) (W : World) (h : W.ownsMap Tryz.prog 66 shR bm n D) (hv : ShV D f) (h0 : 0 ≤ first) (h1 : first + m < 18446744073709551616) (hm : m ≤ 100000)
    (hg : ∀ i, i < m → (t i).good) (hs : ∀ i : Nat, i < m → f (first + i) = some (t i)) (he : f (first + m) = none) :
    Calls Tryz.prog 31 #[.map (some bm), .int .u64 first] W (TextsRes (roll t m).1 W) := by
  obtain ⟨i0, hi, hz0, hz1, hz2⟩ := info_parts infoStr
  have hbm : bm < W.heap.size := by
    obtain ⟨es, clock, h1, _⟩ := h
    exact (Array.getElem?_eq_some_iff.1 h1).1
  have HM := hide h
  have HV := hide hv
  have HG := hide hg
  have HS := hide hs
  have HE := hide he
  have H1 := hide h1
  clear h hv hg hs he h1
  go_enter Tryz.func31, Tryz.ntmps31
  go_wp2_with fail
  go_step3
  go_wp2_with fail
  go_step3
  go_wp2_with fail
  have HT0 := hide (show TxW W (W.alloc (.cells #[.pointer none, .slice none 0 0] 131)) bm n D (.slice none 0 0) [] [] from
    ⟨HM.out.alloc _, ⟨rfl, .inl ⟨rfl, rfl⟩⟩, bfresh (Nat.le_refl _) (Whole.new W [.pointer none, .slice none 0 0] 131), (Below.refl _ _).alloc (Nat.le_refl _) _⟩)
  have HZ := hide (show ∀ w, (zeroValue 125).run Tryz.prog w = .ok (Sh.val ⟨0, false, ⟨#[]⟩⟩) w from Tryz.zeroValue125)
  generalize W.alloc (.cells #[.pointer none, .slice none 0 0] 131) = w1 at *
  go_loopw [5, 7] (fun y x wr => ∃ k : Nat, k ≤ m ∧ x = .int .u64 (first + k) ∧ TxW W wr bm n D y (roll t k).1 (roll t k).2) (fun _ x _ => (first + m - intOf x).toNat)
  case atStart => exact ⟨0, Nat.zero_le _, by simp, HT0.out⟩
  case round =>
    obtain ⟨k, hk, rfl, htx⟩ := hrel
    have HT := hide htx
    clear htx HT0
    have HWf := hide (u64_wf (n := first + (k : Int)) (by omega) (by have := H1.out; omega))
    by_cases hlt : k < m
    · have HF := hide (HS.out k hlt)
      have HGd := hide (HG.out k hlt)
      have HRoll := hide (show roll t (k + 1) = if (t k).last then ((roll t k).1 ++ [⟨((roll t k).2 ++ (t k).text.data.toList).toArray⟩], []) else ((roll t k).1, (roll t k).2 ++ (t k).text.data.toList) from rfl)
      have HCur := hide (roll_cur t k (fun i hi => (HG.out i (by omega)).2))
      have HOut := hide (roll_len t k)
      have hw : IntKind.u64.wrap (first + (k : Int) + 1) = first + (k : Int) + 1 := by have := H1.out; rw [IntKind.wrap_u64]; omega
      generalize (roll t k).1 = out at *
      generalize (roll t k).2 = cur at *
      generalize t k = s at *
      go_wp2_with (at_lookup; refine wpList_lookup_own_ok _ rfl _ _ 87 rfl 66 125 (Maps.int_keyed Tryz.underlying66) Tryz.underlying87 shR (HZ.out _) (Sh.data ⟨0, false, ⟨#[]⟩⟩) [] rfl bm n D rfl HT.out.map (.int .u64 (first + (k : Int))) (.int .u64 (first + (k : Int))) rfl (Maps.keyOf_int_mk Tryz.underlying66 HWf.out) ?_)
      intro v ps hv
      obtain rfl := HV.out.found HF.out hv
      have hhas := (HV.out.some_ _ _ HF.out).1
      clear hv
      rw [hhas]
      clear hhas
      unfold Sh.val
      have HT3 := hide (HT.out.alloc (.cells [.int .u64 s.seq, .bool s.last, .string s.text].toArray 125))
      have HX3 := hide (Whole.new wr [.int .u64 s.seq, .bool s.last, .string s.text] 125)
      go_upto_region 7 with fail
      change Code.wp _ _ _ _ (wr.alloc (.cells [.int .u64 s.seq, .bool s.last, .string s.text].toArray 125))
      generalize wr.alloc (.cells [.int .u64 s.seq, .bool s.last, .string s.text].toArray 125) = w3 at *
      have hB3 : W.heap.size < wr.heap.size := by
        obtain ⟨p, v, hw⟩ := builder_whole HT.out.bld
        exact hw.lt
      generalize wr.heap.size = b3 at *
      have q1 := HX3.out.cell 1
      have q2 := HX3.out.cell 2
      have hsz := HGd.out.2
      have hcu := HCur.out
      go_wp2_with fail
      refine (bWrite _ _ _ _ _ HT3.out.bld (by rw [Lib.byteCells_length]; omega) HT3.out.bel.size).mono ?_
      rintro e w4 ⟨rfl, g1, g2, g3⟩
      have HT4 := hide (show TxW W w4 bm n D u5 out (cur ++ s.text.data.toList) from ⟨shmap_below HT3.out.map g2 hbm, owns_others HT3.out.own g3 (Nat.lt_succ_self _) (by decide), .inr (by rw [bytes_app]; exact g1), HT3.out.bel.trans g2⟩)
      have HX4 := hide (show Whole w4 b3 125 [.int .u64 s.seq, .bool s.last, .string s.text] from g3 _ _ HX3.out (fun e => by injection e with e; omega) (fun c fz e => by injection e with _ e _; exact absurd e (by decide)))
      clear g1 g2 g3 q1 q2 HX3 HT3
      have q1 := HX4.out.cell 1
      cases hl : s.last with
      | false =>
        rw [hl] at q1 HRoll
        have HR := hide (HRoll.out.trans (if_neg (by decide)))
        go_wp2_with fail
        refine ⟨⟨k + 1, by omega, by rw [Int.natCast_add, Int.natCast_one, Int.add_assoc], ?_⟩, ?_⟩
        · rw [HR.out]
          exact HT4.out
        · show (first + m - (first + (k : Int) + 1)).toNat < (first + m - (first + (k : Int))).toNat
          omega
      | true =>
        rw [hl] at q1 HRoll
        have HR := hide (HRoll.out.trans (if_pos rfl))
        go_wp2_with fail
        refine (bString _ _ _ _ HT4.out.bld HT4.out.bel.size).mono ?_
        rintro e w5 ⟨rfl, g1, g2, g3⟩
        have HT5 := hide (show TxW W w5 bm n D u5 out (cur ++ s.text.data.toList) from ⟨shmap_below HT4.out.map g2 hbm, owns_others HT4.out.own g3 (Nat.lt_succ_self _) (by decide), g1, HT4.out.bel.trans g2⟩)
        clear g1 g2 g3
        generalize (⟨(cur ++ s.text.data.toList).toArray⟩ : ByteArray) = tx at *
        go_wp2_with (at_builtin; refine wpList_append_own _ rfl _ _ 39 rfl (W.heap.size + 1) 9 i0 (.string ByteArray.empty) 1 16 Tryz.underlying39 hi hz0 hz1 hz2 rfl (by decide) _ _ _ rfl (HT5.out.own.alloc _) ⟨w5.heap.size, 0, none⟩ 1 1 [.string tx] rfl rfl ?c1 ?c2 ?c3 ?c4 ?c5 ?_)
        case c1 => exact fun j u hu => new_cells w5 _ _ j u hu
        case c2 => intro u hu; simp only [List.mem_singleton] at hu; subst hu; rfl
        case c3 => have := HOut.out; unfold maxLen; omega
        case c4 => have := HOut.out; omega
        case c5 =>
          have h1 : (w5.alloc (.cells #[.string tx] 9)).heap.size = w5.heap.size + 1 := by simp
          have h2 := HT5.out.bel.size
          omega
        intro v2 w6 hown2 hg2 _
        obtain ⟨p6, v6, hw5⟩ := builder_whole HT5.out.bld
        have hl5 := hw5.lt
        have e6 : (w5.alloc (.cells #[.string tx] 9)).heap.size = w5.heap.size + 1 := by simp
        have hb6 : Below (W.heap.size + 1) w5 w6 := ((Below.refl (W.heap.size + 1) w5).alloc (by omega) (.cells #[.string tx] 9)).grown hg2 (by rw [e6]; omega) (fun g hg => (HT5.out.own.lt g hg).1)
        have HO6 := hide (show w6.ownsRow (W.heap.size + 1) 9 1 v2 (out ++ [tx]).length (strs (out ++ [tx])) from by
          have e1 : (out ++ [tx]).length = out.length + 1 := by simp
          have e2 : strs (out ++ [tx]) = strs out ++ [.string tx] := by simp [strs]
          rw [e1, e2]
          exact hown2)
        have HW6 := hide (hw5.below hb6 (Nat.lt_succ_self _))
        have HM6 := hide (shmap_below HT5.out.map hb6 (by omega))
        have HB6 := hide (HT5.out.bel.trans (hb6.mono (Nat.le_succ _)))
        clear hown2 hg2 hb6 hw5
        go_wp2_with fail
        refine (breset_any _ _ _ _ HW6.out).mono ?_
        rintro e w7 ⟨rfl, g1, g2⟩
        have HT7 := hide (show TxW W w7 bm n D v2 (out ++ [tx]) [] from ⟨shmap_kp HM6.out g2 (fun e => by have e : bm = W.heap.size := e; omega), owns_block HO6.out (fun g hg => g2.block g (HO6.out.lt g hg).2 (fun e => by have e : g = W.heap.size := e; have := (HO6.out.lt g hg).1; omega)), bfresh (Nat.le_refl _) g1, HB6.out.trans (g2.below HB6.out.size (fun i hi => by have hi : i = W.heap.size := hi; omega))⟩)
        clear g1 g2
        go_wp2_with fail
        refine ⟨⟨k + 1, by omega, by rw [Int.natCast_add, Int.natCast_one, Int.add_assoc], ?_⟩, ?_⟩
        · rw [HR.out]
          exact HT7.out
        · show (first + m - (first + (k : Int) + 1)).toNat < (first + m - (first + (k : Int))).toNat
          omega
    · obtain rfl : k = m := by omega
      have HF := hide (HV.out.none_ _ HE.out)
      go_wp2_with (at_lookup; refine wpList_lookup_own_ok _ rfl _ _ 87 rfl 66 125 (Maps.int_keyed Tryz.underlying66) Tryz.underlying87 shR (HZ.out _) (Sh.data ⟨0, false, ⟨#[]⟩⟩) [] rfl bm n D rfl HT.out.map (.int .u64 (first + (k : Int))) (.int .u64 (first + (k : Int))) rfl (Maps.keyOf_int_mk Tryz.underlying66 HWf.out) ?_)
      intro v ps hv
      obtain ⟨s, rfl⟩ := shR_inv _ _ hv
      clear hv
      rw [HF.out]
      unfold Sh.val
      go_wp2_with fail
      rw [Exit.noGoto_ret]
      have HT3 := hide (HT.out.alloc (.cells #[.int .u64 s.seq, .bool s.last, .string s.text] 125))
      go_ret
      exact ⟨_, rfl, HT3.out.own, HT3.out.bel⟩
end Go.Proofs.YtnnfiicmplkakaaGreatDoor
namespace Go.Proofs.YtnnfiicmplkakaaGreatDoor
open Go.RowKit Go.Shelf

theorem fTo_mem (xs : Nat → Option Sh) (sec : Nat) (k : Nat) (q : Int) (s : Sh) (h : fTo xs sec k q = some s) : ∃ j, j < k ∧ xs j = some s ∧ s.seq = q := by
  induction k with
  | zero => cases h
  | succ k ih =>
    unfold fTo at h
    have hold : fTo xs sec k q = some s → ∃ j, j < k + 1 ∧ xs j = some s ∧ s.seq = q := fun h => by
      obtain ⟨j, h1, h2⟩ := ih h
      exact ⟨j, by omega, h2⟩
    cases hx : xs k with
    | none =>
      rw [hx] at h
      exact hold h
    | some s' =>
      rw [hx] at h
      have h : (if s'.seq % (sec : Int) = k then setS (fTo xs sec k) s' else fTo xs sec k) q = some s := h
      split at h
      · unfold setS at h
        split at h
        · rename_i e
          cases h
          exact ⟨k, by omega, hx, e.symm⟩
        · exact hold h
      · exact hold h
/-- a number behind all that are there -/
def NextIs (f : Int → Option Sh) (first v : Int) : Prop := first ≤ v ∧ v < 18446744073709551616 ∧ (∀ q s, f q = some s → q + 1 ≤ v) ∧ (v = first ∨ ∃ q s, f q = some s ∧ v = q + 1)
set_option maxHeartbeats 2000000 in
set_option maxRecDepth 20000 in
theorem next2_any (bm n : Nat) (D : DataW Unit) (f : Int → Option Sh) (first : Int) (W : World) (h : W.ownsMap Tryz.prog 66 shR bm n D) (hv : ShV D f) (hf : 0 ≤ first ∧ first < 18446744073709551616) (hq : ∀ q s, f q = some s → 0 ≤ q ∧ q + 1 < 18446744073709551616) :
    Calls Tryz.prog 30 #[.map (some bm), .int .u64 first] W (fun e W' => ∃ v, e = .returned (.int .u64 v) ∧ NextIs f first v ∧ Below W.heap.size W W') := by
  have HM := hide h
  have HF := hide hf
  have HQ := hide hq
  have HHas := hide (show ∀ q, Maps.has D (.int .u64 q) = true → ∃ s, f q = some s from fun q hh => by
    cases hfq : f q with
    | some s => exact ⟨s, rfl⟩
    | none => rw [hv.none_ q hfq] at hh; cases hh)
  have HHas2 := hide (show ∀ q s, f q = some s → Maps.has D (.int .u64 q) = true from fun q s hh => (hv.some_ q s hh).1)
  clear h hv hf hq
  go_enter Tryz.func30, Tryz.ntmps30
  go_wp2_with (at_range; refine wpList_range_own _ rfl _ 87 rfl 66 125 (Maps.int_keyed Tryz.underlying66) Tryz.underlying87 shR bm n D rfl HM.out ?_; intro w0 hrg0 hg0 hs0)
  have HR0 := hide hrg0
  have HB0 := hide (show Below W.heap.size W w0 from (Below.refl _ _).grown hg0 (Nat.le_refl _) (fun k hk => by cases hk))
  clear hrg0 hg0 hs0
  go_frame
  go_loopw [1] (fun x wr => ∃ left cnt v, x = .int .u64 v ∧ wr.ranges Tryz.prog 66 shR bm W.heap.size n D left cnt ∧ (∀ kl, left kl = true → Maps.has D kl = true) ∧ Below W.heap.size W wr ∧ first ≤ v ∧ v < 18446744073709551616 ∧ (∀ q s, f q = some s → left (.int .u64 q) = false → q + 1 ≤ v) ∧ (v = first ∨ ∃ q s, f q = some s ∧ v = q + 1)) (fun _ wr => wr.rangeLeft bm W.heap.size)
  case atStart => exact ⟨_, _, first, rfl, HR0.out, fun kl h => h, HB0.out, Int.le_refl _, HF.out.2, fun q s hs hl => (by rw [HHas2.out q s hs] at hl; cases hl), .inl rfl⟩
  case round =>
    obtain ⟨left, cnt, v, rfl, hrg, hlf, hb, hv0, hv1, hvq, hve⟩ := hrel
    have HVq := hide hvq
    have HVe := hide hve
    have HB := hide hb
    have HR := hide hrg
    have HL := hide hlf
    have HV := hide (show first ≤ v ∧ v < 18446744073709551616 from ⟨hv0, hv1⟩)
    clear hv0 hv1 hvq hve hb hrg hlf
    go_wp2_with (at_next; refine wpList_next_ranges _ rfl _ rfl 66 (Maps.int_keyed Tryz.underlying66) shR (Value.int .u64) Sh.val (fun key kl hkey => by obtain ⟨x, rfl, _⟩ := Maps.keyOf_int_inv Tryz.underlying66 hkey; exact ⟨x, rfl⟩) (fun v y hv => shR_inv v y hv) bm W.heap.size n D left cnt rfl HR.out ?_ ?_)
    · intro _ hno
      have HNo := hide hno
      clear hno
      go_wp2
      go_ret
      exact ⟨v, rfl, ⟨HV.out.1, HV.out.2, fun q s hs => HVq.out q s hs (HNo.out _), HVe.out⟩, HB.out⟩
    · intro x c kl ya yb w1 cnt1 hkey hlk hv2 hat hrg1 hlt hg1 hs1 hen
      obtain ⟨x', ex, rfl, hwx⟩ := Maps.keyOf_int_inv Tryz.underlying66 hkey
      cases ex
      obtain ⟨s0, hs0⟩ := HHas.out x (HL.out _ hlk)
      have HX := hide hs0
      have hx0 := HQ.out x s0 hs0
      have hwr : IntKind.u64.wrap (x + 1) = x + 1 := by rw [IntKind.wrap_u64]; omega
      have HR1 := hide hrg1
      have HB1 := hide (HB.out.grown hg1 HB.out.size (fun k hk => by cases hk; exact Nat.le_refl _))
      have HLt := hide (show w1.rangeLeft bm W.heap.size < wr.rangeLeft bm W.heap.size by rw [hrg1.left_eq, HR.out.left_eq]; exact hlt)
      have HX0 := hide hx0
      clear hkey hlk hv2 hat hrg1 hlt hg1 hs1 hwx hs0 hx0
      go_wp2
      have hvv := HV.out
      have hxx := HX0.out
      refine ⟨⟨_, _, _, rfl, HR1.out, fun z hz => HL.out z (by rw [Bool.and_eq_true] at hz; exact hz.1), HB1.out, by omega, by omega, fun q s hs hl => ?_, ?_⟩, HLt.out⟩
      · rw [Bool.and_eq_false_iff] at hl
        rcases hl with hl | hl
        · have := HVq.out q s hs hl
          omega
        · have hl : (Lit.int .u64 q).sameKey (.int .u64 x) = true := by simpa using hl
          have e : q = x := by simpa [Lit.sameKey] using hl
          omega
      · rcases HVe.out with e | ⟨q, s, hq, e⟩
        · by_cases h : v ≤ x + 1
          · exact .inr ⟨x, s0, HX.out, by omega⟩
          · exact .inl (by omega)
        · by_cases h : v ≤ x + 1
          · exact .inr ⟨x, s0, HX.out, by omega⟩
          · exact .inr ⟨q, s, hq, by omega⟩
/-- behind Open: a log that is new, and texts -/
def Open2Res (bd : Nat) (h : Hd) (at_ : Int) (f : Int → Option Sh) (ts : List ByteArray) (W : World) (e : Ending) (W' : World) : Prop :=
  ∃ bl v nx, e = .returned (.tuple #[.pointer (some ⟨bl, 0, none⟩), v, .int .i64 0]) ∧ W'.ownsRow W.heap.size 9 1 v ts.length (strs ts) ∧ Lg W' bl bd h at_ nx h.sec ∧ NextIs f h.first nx ∧ W.heap.size ≤ bl ∧ Below W.heap.size W W'
set_option maxHeartbeats 2000000 in
set_option maxRecDepth 20000 in
theorem walopen2_any (bd n : Nat) (F : Nat → Prop) (c : Nat → List Int) (m : Nat) (xs : Nat → Option Hd) (h : Hd) (ia : Nat) (W : World) (hd : Ds W bd n F c m) (hm : m ≤ 100000)
    (hx : ∀ i, i < 2 → HdIs (c i) (xs i)) (hb : bestTo xs 2 = some (h, ia)) (hs1 : 1 ≤ h.sec) (hs : h.sec < 60000) (hn : 2 + h.sec ≤ n) (ys : Nat → Option Sh) (hy : ∀ i, i < h.sec → ShIs (c (2 + i)) (ys i)) (ht : Tab W) (hgd : h.good)
    (t : Nat → Sh) (k : Nat) (hk : k ≤ 100000) (hfk : h.first + k < 18446744073709551616) (hT : ∀ i : Nat, i < k → fTo ys h.sec h.sec (h.first + i) = some (t i)) (hE : fTo ys h.sec h.sec (h.first + k) = none) (hq : ∀ q s, fTo ys h.sec h.sec q = some s → 0 ≤ q ∧ q + 1 < 18446744073709551616) :
    Calls Tryz.prog 16 #[.pointer (some ⟨bd, 0, none⟩)] W (Open2Res bd h ia (fTo ys h.sec h.sec) (roll t k).1 W) := by
  have HGt := hide (show ∀ i, i < k → (t i).good from fun i hi => by
    obtain ⟨j, h1, h2, _⟩ := fTo_mem _ _ _ _ _ (hT i hi)
    have h3 := hy j h1
    rw [h2] at h3
    exact h3.2.1)
  have HV := hide (shTo_view ys h.sec h.sec)
  have HTx := hide (show ∀ (bm nn : Nat) (w : World), w.ownsMap Tryz.prog 66 shR bm nn (shTo ys h.sec h.sec) → Calls Tryz.prog 31 #[.map (some bm), .int .u64 h.first] w (TextsRes (roll t k).1 w) from
    fun bm nn w ho => texts_any bm nn _ _ t k h.first w ho HV.out hgd.2.1.1 hfk hk HGt.out hT hE)
  have HNx := hide (show ∀ (bm nn : Nat) (w : World), w.ownsMap Tryz.prog 66 shR bm nn (shTo ys h.sec h.sec) → Calls Tryz.prog 30 #[.map (some bm), .int .u64 h.first] w (fun e W' => ∃ v, e = .returned (.int .u64 v) ∧ NextIs (fTo ys h.sec h.sec) h.first v ∧ Below w.heap.size w W') from
    fun bm nn w ho => next2_any bm nn _ _ h.first w ho HV.out hgd.2.1 hq)
  have HRd := fun W' (hb : Below W.heap.size W W') => hide (readall_any bd n F c m h.sec ys W' (hd.below hb) hm hs1 hs hn hy (ht.below hb))
  have HLen := fun (W' : World) (hb : Below W.heap.size W W') => hide (show Calls Tryz.prog 21 #[.pointer (some ⟨bd, 0, none⟩)] W' (fun e w' => e = .returned (.int .i64 n) ∧ W' = w') from by
    obtain ⟨A0, k0, hln⟩ := (hd.below hb).len
    exact dlen_any bd n k0 A0 W' hln)
  have HCo := hide (show Calls Tryz.prog 28 #[.pointer (some ⟨bd, 0, none⟩)] W (fun e W' => e = .returned (.tuple #[h.val, .int .i64 (ia : Int), .int .i64 0]) ∧ Below W.heap.size W W') from by
    have := hd.counts hm (by omega) xs hx ht
    unfold CountsRes at this
    rw [hb] at this
    exact this)
  clear hd ht hx hy hb hgd hT hE hq hfk hk HGt HV
  generalize shTo ys h.sec h.sec = D at *
  generalize fTo ys h.sec h.sec = f at *
  generalize (roll t k).1 = ts at *
  go_enter Tryz.func16, Tryz.ntmps16
  go_wp2_with fail
  refine HCo.out.mono ?_
  rintro e w1 ⟨rfl, hb⟩
  have HB1 := hide hb
  have hb1sz := hb.size
  clear hb
  unfold Hd.val
  have hx2 := Whole.new w1 h.cells 84
  have hb2 : Below w1.heap.size w1 (w1.alloc (.cells h.cells.toArray 84)) := (Below.refl _ _).alloc (Nat.le_refl _) _
  change Whole (w1.alloc (.cells h.cells.toArray 84)) _ _ _ at hx2
  have HX2 := hide hx2
  have HB2 := hide (HB1.out.trans (hb2.mono HB1.out.size))
  clear hx2 hb2 HB1
  go_upto_region 6 with fail
  change Code.wp _ _ _ _ (w1.alloc (.cells h.cells.toArray 84))
  generalize w1.alloc (.cells h.cells.toArray 84) = w2 at *
  generalize w1.heap.size = b5 at *
  have q2 : w2.cell? ⟨b5, 2, none⟩ = some (.int .i64 (h.sec : Int)) := HX2.out.cell 2
  have hia : ¬ (ia : Int) < 0 := by omega
  have hs1' : decide ((h.sec : Int) < 1) = false := by simp; omega
  have hs2' : decide ((n : Int) < 2 + (h.sec : Int)) = false := by simp; omega
  go_quiet (first | (go_at_call 21; refine Calls.quiet_of_same ((HLen _ (below_drewN HB2.out _)).out.mono fun _ _ h => ⟨h.1, h.2.symm⟩)))
  have HB3 := hide (below_drewN HB2.out nq)
  have HX3 := hide (HX2.out.below (below_drewN (Below.refl w2.heap.size w2) nq) HX2.out.lt)
  clear HB2 HX2 q2
  generalize w2.drewN nq = w3 at *
  have q2 : w3.cell? ⟨b5, 2, none⟩ = some (.int .i64 (h.sec : Int)) := HX3.out.cell 2
  go_wp2_with fail
  refine (HRd w3 HB3.out).out.mono ?_
  rintro e w4 ⟨bm, rfl, hmp, hbm, hb⟩
  have HM4 := hide hmp
  have HB4 := hide (HB3.out.trans (hb.mono HB3.out.size))
  have HX4 := hide (HX3.out.below hb HX3.out.lt)
  clear hmp hb HX3 HB3 q2
  go_upto_region 11 with fail
  have hbl := HX4.out.lt
  refine wp_region_held_drew (S := (fun w' => Below w4.heap.size w4 w')) (by kernel_rfl) ((Below.refl _ _).drew) (fun hHeld => ?_)
  have HBd := hide (HB4.out.trans (hHeld.mono HB4.out.size))
  have HMd := hide (HM4.out.below hHeld)
  generalize w4.drew = wd at *
  refine wpAnyH_take (i := 0) (v := ?vq1) rfl (by kernel_rfl) (by kernel_rfl) (by kernel_rfl) (fun _ _ _ h => h) (Or.inl ⟨by rfl, ?hq1⟩) (by assumption) ?rq1
  case hq1 => (intro wq hSw; go_simp; (try with_reducible rfl))
  try simp only [Act.put, List.getElem_toArray, List.getElem_cons_zero, List.setIfInBounds_toArray, List.set_cons_zero, List.set_cons_succ]
  refine wpAnyH_take (i := 1) (v := ?vq2) rfl (by kernel_rfl) (by kernel_rfl) (by kernel_rfl) (fun _ _ _ h => h) (Or.inl ⟨by rfl, ?hq2⟩) (by assumption) ?rq2
  case hq2 => (intro wq hSw; have hX := HX4.out.below hSw hbl; have e0 := hX.cell 0; have e1 := hX.cell 1; have e2 := hX.cell 2; have e3 := hX.cell 3; unfold Hd.cells at e0 e1 e2 e3; simp only [List.getElem?_cons_zero, List.getElem?_cons_succ] at e0 e1 e2 e3; go_simp; (try with_reducible rfl))
  try simp only [Act.put, List.getElem_toArray, List.getElem_cons_zero, List.getElem_cons_succ, List.setIfInBounds_toArray, List.set_cons_zero, List.set_cons_succ]
  refine wpAnyH_take (i := 2) (v := ?vq3) rfl (by kernel_rfl) (by kernel_rfl) (by kernel_rfl) (fun _ _ _ h => h) (Or.inl ⟨by rfl, ?hq3⟩) (by assumption) ?rq3
  case hq3 => (intro wq hSw; go_simp; (try with_reducible rfl))
  try simp only [Act.put, List.getElem_toArray, List.getElem_cons_zero, List.getElem_cons_succ, List.setIfInBounds_toArray, List.set_cons_zero, List.set_cons_succ]
  refine wpAnyH_take (i := 3) (v := ?vq4) rfl (by kernel_rfl) (by kernel_rfl) (by kernel_rfl) (fun _ _ _ h => h) (Or.inl ⟨by rfl, ?hq4⟩) (by assumption) ?rq4
  case hq4 => (intro wq hSw; go_simp; (try with_reducible rfl))
  try simp only [Act.put, List.getElem_toArray, List.getElem_cons_zero, List.getElem_cons_succ, List.setIfInBounds_toArray, List.set_cons_zero, List.set_cons_succ]
  refine wpAnyH_take (i := 4) (v := ?vq5) rfl (by kernel_rfl) (by kernel_rfl) (by kernel_rfl) (fun _ _ _ h => h) (Or.inl ⟨by rfl, ?hq5⟩) (by assumption) ?rq5
  case hq5 => (intro wq hSw; go_simp; (try with_reducible rfl))
  try simp only [Act.put, List.getElem_toArray, List.getElem_cons_zero, List.getElem_cons_succ, List.setIfInBounds_toArray, List.set_cons_zero, List.set_cons_succ]
  refine wpAnyH_take (i := 5) (v := ?vq6) rfl (by kernel_rfl) (by kernel_rfl) (by kernel_rfl) (fun _ _ _ h => h) (Or.inl ⟨by rfl, ?hq6⟩) (by assumption) ?rq6
  case hq6 => (intro wq hSw; have hX := HX4.out.below hSw hbl; have e0 := hX.cell 0; have e1 := hX.cell 1; have e2 := hX.cell 2; have e3 := hX.cell 3; unfold Hd.cells at e0 e1 e2 e3; simp only [List.getElem?_cons_zero, List.getElem?_cons_succ] at e0 e1 e2 e3; go_simp; (try with_reducible rfl))
  try simp only [Act.put, List.getElem_toArray, List.getElem_cons_zero, List.getElem_cons_succ, List.setIfInBounds_toArray, List.set_cons_zero, List.set_cons_succ]
  refine wpAnyH_take (i := 7) (v := ?vq7) rfl (by kernel_rfl) (by kernel_rfl) (by kernel_rfl) (fun _ _ _ h => h) (Or.inl ⟨by rfl, ?hq7⟩) (by assumption) ?rq7
  case hq7 => (intro wq hSw; go_simp; (try with_reducible rfl))
  try simp only [Act.put, List.getElem_toArray, List.getElem_cons_zero, List.getElem_cons_succ, List.setIfInBounds_toArray, List.set_cons_zero, List.set_cons_succ]
  refine wpAnyH_take (i := 8) (v := ?vq8) rfl (by kernel_rfl) (by kernel_rfl) (by kernel_rfl) (fun _ _ _ h => h) (Or.inl ⟨by rfl, ?hq8⟩) (by assumption) ?rq8
  case hq8 => (intro wq hSw; have hX := HX4.out.below hSw hbl; have e0 := hX.cell 0; have e1 := hX.cell 1; have e2 := hX.cell 2; have e3 := hX.cell 3; unfold Hd.cells at e0 e1 e2 e3; simp only [List.getElem?_cons_zero, List.getElem?_cons_succ] at e0 e1 e2 e3; go_simp; (try with_reducible rfl))
  try simp only [Act.put, List.getElem_toArray, List.getElem_cons_zero, List.getElem_cons_succ, List.setIfInBounds_toArray, List.set_cons_zero, List.set_cons_succ]
  refine wpAnyH_take (i := 11) (v := ?vq9) rfl (by kernel_rfl) (by kernel_rfl) (by kernel_rfl) (fun _ _ _ h => h) (Or.inl ⟨by rfl, ?hq9⟩) (by assumption) ?rq9
  case hq9 => (intro wq hSw; go_simp; (try with_reducible rfl))
  try simp only [Act.put, List.getElem_toArray, List.getElem_cons_zero, List.getElem_cons_succ, List.setIfInBounds_toArray, List.set_cons_zero, List.set_cons_succ]
  refine wpAnyH_take (i := 12) (v := ?vq10) rfl (by kernel_rfl) (by kernel_rfl) (by kernel_rfl) (fun _ _ _ h => h) (Or.inl ⟨by rfl, ?hq10⟩) (by assumption) ?rq10
  case hq10 => (intro wq hSw; go_simp; (try with_reducible rfl))
  try simp only [Act.put, List.getElem_toArray, List.getElem_cons_zero, List.getElem_cons_succ, List.setIfInBounds_toArray, List.set_cons_zero, List.set_cons_succ]
  refine wpAnyH_take (i := 13) (v := ?vq11) rfl (by kernel_rfl) (by kernel_rfl) (by kernel_rfl) (fun _ _ _ h => h) (Or.inl ⟨by rfl, ?hq11⟩) (by assumption) ?rq11
  case hq11 => (intro wq hSw; have hX := HX4.out.below hSw hbl; have e0 := hX.cell 0; have e1 := hX.cell 1; have e2 := hX.cell 2; have e3 := hX.cell 3; unfold Hd.cells at e0 e1 e2 e3; simp only [List.getElem?_cons_zero, List.getElem?_cons_succ] at e0 e1 e2 e3; go_simp; (try with_reducible rfl))
  try simp only [Act.put, List.getElem_toArray, List.getElem_cons_zero, List.getElem_cons_succ, List.setIfInBounds_toArray, List.set_cons_zero, List.set_cons_succ]
  refine wpAnyH_ready (rs := [6]) (by kernel_rfl) (by simp) ?_
  refine AllReadyH.cons (o := _) rfl (fun K hK => ?_) ?_
  · skip
    go_simp
    obtain ⟨nn, hnn, hown⟩ := HMd.out
    refine (HNx.out bm nn wd hown).mono ?_
    rintro e wn ⟨vn, rfl, hnx, hb⟩
    have HNi := hide hnx
    have HBn := hide (HBd.out.trans (hb.mono HBd.out.size))
    have hHn := hHeld.trans (hb.mono hHeld.size)
    have HMn := hide (HMd.out.below hb)
    clear hnx hb hown
    refine hK.out _ _ (hHn) (fun hHeld => ?_)
    clear hK K HBd HMd
    try simp only [Act.put, List.getElem_toArray, List.getElem_cons_zero, List.getElem_cons_succ, List.setIfInBounds_toArray, List.set_cons_zero, List.set_cons_succ]
    refine wpAnyH_take (i := 9) (v := ?vq12) rfl (by kernel_rfl) (by kernel_rfl) (by kernel_rfl) (fun _ _ _ h => h) (Or.inl ⟨by rfl, ?hq12⟩) (by assumption) ?rq12
    case hq12 => (intro wq hSw; go_simp; (try with_reducible rfl))
    try simp only [Act.put, List.getElem_toArray, List.getElem_cons_zero, List.getElem_cons_succ, List.setIfInBounds_toArray, List.set_cons_zero, List.set_cons_succ]
    refine wpAnyH_ready (rs := [10, 14]) (by kernel_rfl) (by simp) ?_
    refine AllReadyH.cons (o := _) rfl (fun K hK => ?_) ?_
    · skip
      go_simp
      have hbx := Whole.new wn [.pointer (some ⟨bd, 0, none⟩), .int .u64 h.gen, .int .u64 h.first, .int .i64 (h.sec : Int), .string h.note, .int .i64 (ia : Int), .int .u64 vn, .int .i64 (h.sec : Int), .bool false] 92
      have hbw := (Below.refl wn.heap.size wn).alloc (Nat.le_refl _) (.cells #[.pointer (some ⟨bd, 0, none⟩), .int .u64 h.gen, .int .u64 h.first, .int .i64 (h.sec : Int), .string h.note, .int .i64 (ia : Int), .int .u64 vn, .int .i64 (h.sec : Int), .bool false] 92)
      have HBx := hide (HBn.out.trans (hbw.mono HBn.out.size))
      have hHx := hHeld.trans (hbw.mono hHeld.size)
      have HMx := hide (HMn.out.below hbw)
      change Whole (wn.alloc (.cells #[.pointer (some ⟨bd, 0, none⟩), .int .u64 h.gen, .int .u64 h.first, .int .i64 (h.sec : Int), .string h.note, .int .i64 (ia : Int), .int .u64 vn, .int .i64 (h.sec : Int), .bool false] 92)) _ _ _ at hbx
      have HLx := hide (show Lg _ _ bd h ia vn h.sec from hbx)
      have hbls : W.heap.size ≤ wn.heap.size := HBn.out.size
      refine hK.out _ _ (hHx) (fun hHeld => ?_)
      clear hK K hbw hbx
      try simp only [Act.put, List.getElem_toArray, List.getElem_cons_zero, List.getElem_cons_succ, List.setIfInBounds_toArray, List.set_cons_zero, List.set_cons_succ]
      generalize wn.alloc (.cells #[.pointer (some ⟨bd, 0, none⟩), .int .u64 h.gen, .int .u64 h.first, .int .i64 (h.sec : Int), .string h.note, .int .i64 (ia : Int), .int .u64 vn, .int .i64 (h.sec : Int), .bool false] 92) = wx at *
      generalize wn.heap.size = bl at *
      refine wpAnyH_ready (rs := [14]) (by kernel_rfl) (by simp) ?_
      refine AllReadyH.cons (o := _) rfl (fun K hK => ?_) ?_
      · skip
        go_simp
        obtain ⟨nn, hnn, hown⟩ := HMx.out
        refine (HTx.out bm nn wx hown).mono ?_
        rintro e wt ⟨vt, rfl, hot, hb⟩
        have HBt := hide (HBx.out.trans (hb.mono HBx.out.size))
        have HOt := hide (owns_base hot (fun g hg => Nat.le_trans (Nat.le_succ_of_le HBx.out.size) (hot.lt g hg).1))
        have hHt := hHeld.trans (hb.mono hHeld.size)
        have HLt := hide (HLx.out.below hb)
        refine hK.out _ _ (hHt) (fun hHeld => ?_)
        clear hK K hb hown hot
        try simp only [Act.put, List.getElem_toArray, List.getElem_cons_zero, List.getElem_cons_succ, List.setIfInBounds_toArray, List.set_cons_zero, List.set_cons_succ]
        refine wpAnyH_take (i := 15) (v := ?vq13) rfl (by kernel_rfl) (by kernel_rfl) (by kernel_rfl) (fun _ _ _ h => h) (Or.inl ⟨by rfl, ?hq13⟩) (by assumption) ?rq13
        case hq13 => (intro wq hSw; go_simp; (try with_reducible rfl))
        try simp only [Act.put, List.getElem_toArray, List.getElem_cons_zero, List.getElem_cons_succ, List.setIfInBounds_toArray, List.set_cons_zero, List.set_cons_succ]
        refine wpAnyH_take (i := 16) (v := ?vq14) rfl (by kernel_rfl) (by kernel_rfl) (by kernel_rfl) (fun _ _ _ h => h) (Or.inl ⟨by rfl, ?hq14⟩) (by assumption) ?rq14
        case hq14 => (intro wq hSw; go_simp; (try with_reducible rfl))
        try simp only [Act.put, List.getElem_toArray, List.getElem_cons_zero, List.getElem_cons_succ, List.setIfInBounds_toArray, List.set_cons_zero, List.set_cons_succ]
        refine wpAnyH_take (i := 17) (v := ?vq15) rfl (by kernel_rfl) (by kernel_rfl) (by kernel_rfl) (fun _ _ _ h => h) (Or.inl ⟨by rfl, ?hq15⟩) (by assumption) ?rq15
        case hq15 => (intro wq hSw; go_simp; (try with_reducible rfl))
        try simp only [Act.put, List.getElem_toArray, List.getElem_cons_zero, List.getElem_cons_succ, List.setIfInBounds_toArray, List.set_cons_zero, List.set_cons_succ]
        refine wpAnyH_done (by kernel_rfl) ?_ _
        go_wp2_with fail
        exact bodyPost_ret (v := .tuple #[.pointer (some ⟨bl, 0, none⟩), vt, .int .i64 0]) (by simp [results, Tryz.results16, go_sem]) rfl ⟨_, _, _, rfl, HOt.out, HLt.out, HNi.out, hbls, HBt.out⟩
      exact AllReadyH.nil
    refine AllReadyH.cons (o := _) rfl (fun K hK => ?_) ?_
    · skip
      go_simp
      obtain ⟨nn, hnn, hown⟩ := HMn.out
      refine (HTx.out bm nn wn hown).mono ?_
      rintro e wt ⟨vt, rfl, hot, hb⟩
      have HBt := hide (HBn.out.trans (hb.mono HBn.out.size))
      have HOt := hide (owns_base hot (fun g hg => Nat.le_trans (Nat.le_succ_of_le HBn.out.size) (hot.lt g hg).1))
      have hHt := hHeld.trans (hb.mono hHeld.size)
      have HMt := hide (HMn.out.below hb)
      refine hK.out _ _ (hHt) (fun hHeld => ?_)
      clear hK K hb hown hot
      try simp only [Act.put, List.getElem_toArray, List.getElem_cons_zero, List.getElem_cons_succ, List.setIfInBounds_toArray, List.set_cons_zero, List.set_cons_succ]
      refine wpAnyH_ready (rs := [10]) (by kernel_rfl) (by simp) ?_
      refine AllReadyH.cons (o := _) rfl (fun K hK => ?_) ?_
      · skip
        go_simp
        have hbx := Whole.new wt [.pointer (some ⟨bd, 0, none⟩), .int .u64 h.gen, .int .u64 h.first, .int .i64 (h.sec : Int), .string h.note, .int .i64 (ia : Int), .int .u64 vn, .int .i64 (h.sec : Int), .bool false] 92
        have hbw := (Below.refl wt.heap.size wt).alloc (Nat.le_refl _) (.cells #[.pointer (some ⟨bd, 0, none⟩), .int .u64 h.gen, .int .u64 h.first, .int .i64 (h.sec : Int), .string h.note, .int .i64 (ia : Int), .int .u64 vn, .int .i64 (h.sec : Int), .bool false] 92)
        have HBx := hide (HBt.out.trans (hbw.mono HBt.out.size))
        have hHx := hHeld.trans (hbw.mono hHeld.size)
        have HMx := hide (HMt.out.below hbw)
        change Whole (wt.alloc (.cells #[.pointer (some ⟨bd, 0, none⟩), .int .u64 h.gen, .int .u64 h.first, .int .i64 (h.sec : Int), .string h.note, .int .i64 (ia : Int), .int .u64 vn, .int .i64 (h.sec : Int), .bool false] 92)) _ _ _ at hbx
        have HLx := hide (show Lg _ _ bd h ia vn h.sec from hbx)
        have HOx := hide (show (wt.alloc (.cells #[.pointer (some ⟨bd, 0, none⟩), .int .u64 h.gen, .int .u64 h.first, .int .i64 (h.sec : Int), .string h.note, .int .i64 (ia : Int), .int .u64 vn, .int .i64 (h.sec : Int), .bool false] 92)).ownsRow _ _ _ _ _ _ from HOt.out.alloc _)
        have hbls : W.heap.size ≤ wt.heap.size := HBt.out.size
        refine hK.out _ _ (hHx) (fun hHeld => ?_)
        clear hK K hbw hbx
        try simp only [Act.put, List.getElem_toArray, List.getElem_cons_zero, List.getElem_cons_succ, List.setIfInBounds_toArray, List.set_cons_zero, List.set_cons_succ]
        generalize wt.alloc (.cells #[.pointer (some ⟨bd, 0, none⟩), .int .u64 h.gen, .int .u64 h.first, .int .i64 (h.sec : Int), .string h.note, .int .i64 (ia : Int), .int .u64 vn, .int .i64 (h.sec : Int), .bool false] 92) = wx at *
        generalize wt.heap.size = bl at *
        refine wpAnyH_take (i := 15) (v := ?vq16) rfl (by kernel_rfl) (by kernel_rfl) (by kernel_rfl) (fun _ _ _ h => h) (Or.inl ⟨by rfl, ?hq16⟩) (by assumption) ?rq16
        case hq16 => (intro wq hSw; go_simp; (try with_reducible rfl))
        try simp only [Act.put, List.getElem_toArray, List.getElem_cons_zero, List.getElem_cons_succ, List.setIfInBounds_toArray, List.set_cons_zero, List.set_cons_succ]
        refine wpAnyH_take (i := 16) (v := ?vq17) rfl (by kernel_rfl) (by kernel_rfl) (by kernel_rfl) (fun _ _ _ h => h) (Or.inl ⟨by rfl, ?hq17⟩) (by assumption) ?rq17
        case hq17 => (intro wq hSw; go_simp; (try with_reducible rfl))
        try simp only [Act.put, List.getElem_toArray, List.getElem_cons_zero, List.getElem_cons_succ, List.setIfInBounds_toArray, List.set_cons_zero, List.set_cons_succ]
        refine wpAnyH_take (i := 17) (v := ?vq18) rfl (by kernel_rfl) (by kernel_rfl) (by kernel_rfl) (fun _ _ _ h => h) (Or.inl ⟨by rfl, ?hq18⟩) (by assumption) ?rq18
        case hq18 => (intro wq hSw; go_simp; (try with_reducible rfl))
        try simp only [Act.put, List.getElem_toArray, List.getElem_cons_zero, List.getElem_cons_succ, List.setIfInBounds_toArray, List.set_cons_zero, List.set_cons_succ]
        refine wpAnyH_done (by kernel_rfl) ?_ _
        go_wp2_with fail
        exact bodyPost_ret (v := .tuple #[.pointer (some ⟨bl, 0, none⟩), vt, .int .i64 0]) (by simp [results, Tryz.results16, go_sem]) rfl ⟨_, _, _, rfl, HOx.out, HLx.out, HNi.out, hbls, HBx.out⟩
      exact AllReadyH.nil
    exact AllReadyH.nil
  exact AllReadyH.nil
end Go.Proofs.YtnnfiicmplkakaaGreatDoor
namespace Go.Proofs.YtnnfiicmplkakaaGreatDoor
open Go.RowKit Go.Shelf

/-- a log's text: pages, and which of them, rising -/
abbrev Tx := (Nat → Option (List Int)) × List Nat
def TxIs (P : Nat) (t : ByteArray) (x : Tx) : Prop := (∃ es, t = strOfNums (entT es) ∧ GoodE P es ∧ 0 < es.length ∧ es.length ≤ 1024 ∧ x.1 = foldE (fun _ => none) es) ∧ Rising x.1 x.2 ∧ x.2.length ≤ 1024 ∧ ∀ k ∈ x.2, k < P
def applyT (c : Nat → List Int) (L : Nat) (l : List Tx) : Nat → List Int := l.foldl (fun c x => putPg c L x.1 x.2) c
def cntT (l : List Tx) : Nat := (l.map fun x => x.2.length).sum
theorem applyT_take (c : Nat → List Int) (L : Nat) (l : List Tx) (k : Nat) (h : k < l.length) : applyT c L (l.take (k + 1)) = putPg (applyT c L (l.take k)) L l[k].1 l[k].2 := by
  unfold applyT
  rw [List.take_succ_eq_append_getElem h, List.foldl_append]
  rfl
theorem foldE_good {P : Nat} {es : List (Nat × List Int)} (h : GoodE P es) : ∀ f : Nat → Option (List Int), (∀ k xs, f k = some xs → xs.length = 512 ∧ Byt xs) → ∀ k xs, foldE f es k = some xs → xs.length = 512 ∧ Byt xs := by
  induction es with
  | nil => exact fun f hf => hf
  | cons e es ih =>
    intro f hf
    show ∀ k xs, foldE (setP f e.1 e.2) es k = some xs → _
    refine ih (fun x hx => h x (List.mem_cons_of_mem _ hx)) _ fun k xs hk => ?_
    unfold setP at hk
    split at hk
    · cases hk
      exact (h e List.mem_cons_self).2
    · exact hf k xs hk
theorem putPg_wf {f : Nat → Option (List Int)} (hf : ∀ k xs, f k = some xs → xs.length = 512 ∧ Byt xs) (L : Nat) (ks : List Nat) (hk : ∀ k ∈ ks, (f k).isSome = true) (c : Nat → List Int) (hc : ∀ j, (c j).length = 512 ∧ Byt (c j)) : ∀ j, (putPg c L f ks j).length = 512 ∧ Byt (putPg c L f ks j) := by
  induction ks generalizing c with
  | nil => exact hc
  | cons k ks ih =>
    show ∀ j, (putPg (upd c (2 + L + k) ((f k).getD [])) L f ks j).length = 512 ∧ _
    refine ih (fun j hj => hk j (List.mem_cons_of_mem _ hj)) _ fun j => ?_
    obtain ⟨xs, hxs⟩ := Option.isSome_iff_exists.1 (hk k List.mem_cons_self)
    unfold upd
    split
    · rw [hxs]; exact hf k xs hxs
    · exact hc j
theorem tx_wf {P : Nat} {t : ByteArray} {x : Tx} (h : TxIs P t x) (L : Nat) (c : Nat → List Int) (hc : ∀ j, (c j).length = 512 ∧ Byt (c j)) (j : Nat) : (putPg c L x.1 x.2 j).length = 512 ∧ Byt (putPg c L x.1 x.2 j) := by
  obtain ⟨⟨es, _, hg, _, _, he⟩, hr, _⟩ := h
  exact putPg_wf (by rw [he]; exact foldE_good hg _ (fun k xs h => by cases h)) L x.2 (fun k hk => (hr.mem k).1 hk) c hc j
/-- what lies in memory while Open goes on -/
structure OpX (W w1 w : World) (bd n : Nat) (F : Nat → Prop) (c : Nat → List Int) (m : Nat) (h : Hd) (ia : Nat) (nx : Int) (bl bk : Nat) (cs : List Value) : Prop where
  lg : Lg w bl bd h ia nx h.sec
  ds : Ds w bd n F c m
  k : w.ownsMap Tryz.prog 3 pgR bk 0 (.map [])
  t : w.ownsMap Tryz.prog 3 (plainElem (H := Unit) Tryz.prog 4) (bk + 1) 0 (.map [])
  c : w.ownsMap Tryz.prog 3 pgR (bk + 1 + 1) 0 (.map [])
  st : Whole w (bk + 1 + 1 + 1) 160 cs
  bel : Below W.heap.size W w
  bel1 : Below w1.heap.size w1 w
section
variable {W w1 w w' : World} {bd n : Nat} {F : Nat → Prop} {c : Nat → List Int} {m : Nat} {h : Hd} {ia : Nat} {nx : Int} {bl bk : Nat} {cs : List Value}
theorem OpX.kp {G : Nat → Prop} (o : OpX W w1 w bd n F c m h ia nx bl bk cs) (hk : Kp G w w') (h1 : w1.heap.size ≤ bk) (hG : ∀ k, G k → bk + 1 + 1 + 1 < k ∧ W.heap.size ≤ k ∧ k ≠ bl ∧ ¬ F k) : OpX W w1 w' bd n F c m h ia nx bl bk cs := by
  have hn : ∀ b, b ≤ bk + 1 + 1 + 1 → ¬ G b := fun b hb hg => by have := (hG b hg).1; omega
  exact ⟨o.lg.kp hk (fun hg => (hG _ hg).2.2.1 rfl), o.ds.kp hk (fun k hf hg => (hG k hg).2.2.2 hf), owns_kp o.k hk (hn _ (by omega)), owns_kp o.t hk (hn _ (by omega)), owns_kp o.c hk (hn _ (by omega)), o.st.kp hk (hn _ (by omega)), o.bel.trans (hk.below o.bel.size (fun i hi => (hG i hi).2.1)), o.bel1.trans (hk.below o.bel1.size (fun i hi => by have := (hG i hi).1; omega))⟩
theorem OpX.below (o : OpX W w1 w bd n F c m h ia nx bl bk cs) (h1 : w1.heap.size ≤ bk) (hb : Below w.heap.size w w') : OpX W w1 w' bd n F c m h ia nx bl bk cs := o.kp (G := NoF) (Kp.of_below hb) h1 (fun _ h => h.elim)
theorem OpX.put (o : OpX W w1 w bd n F c m h ia nx bl bk cs) (i : Nat) (v : Value) (h1 : w1.heap.size ≤ bk) (hbk : W.heap.size ≤ bk) (hbl : bl < bk) (hF : ¬ F (bk + 1 + 1 + 1)) : OpX W w1 (w.setCell ⟨bk + 1 + 1 + 1, i, none⟩ v) bd n F c m h ia nx bl bk (cs.set i v) := by
  have hk : Kp (OnlyF (bk + 1 + 1 + 1)) w (w.setCell ⟨bk + 1 + 1 + 1, i, none⟩ v) := Kp.set_only _ _ _ _
  have hn : ∀ b, b < bk + 1 + 1 + 1 → ¬ OnlyF (bk + 1 + 1 + 1) b := fun b hb e => by have : b = bk + 1 + 1 + 1 := e; omega
  exact ⟨o.lg.kp hk (hn _ (by omega)), o.ds.kp hk (fun k hf hg => hF (by have : k = bk + 1 + 1 + 1 := hg; rwa [← this])), owns_kp o.k hk (hn _ (by omega)), owns_kp o.t hk (hn _ (by omega)), owns_kp o.c hk (hn _ (by omega)), o.st.set_ i v, o.bel.setCell (by show W.heap.size ≤ bk + 1 + 1 + 1; omega) _, o.bel1.setCell (by show w1.heap.size ≤ bk + 1 + 1 + 1; omega) _⟩
end
/-- what Open begins with -/
def openX (c : Nat → List Int) (h : Hd) (ia : Nat) (nx : Int) : PgD := ⟨upd c (1 - ia) (trimHd h nx).bytes, 0, trimHd h nx, ((1 - ia : Nat) : Int), nx, 0, 0, fun _ => none, fun _ => false, fun _ => none⟩
def POpenX (bd n P : Nat) (nt : ByteArray) (F : Nat → Prop) (c : Nat → List Int) (h : Hd) (ia : Nat) (f : Int → Option Sh) (W : World) (e : Ending) (W' : World) : Prop :=
  ∃ nx, NextIs f h.first nx ∧ POpenRes bd n P nt F ((openX c h ia nx).read 0) W e W'
/-- the store while texts are done -/
def opS (bk bl bd n P : Nat) (nt : ByteArray) : PgS := ⟨bk + 1 + 1 + 1, bl, bd, n, P, nt, bk, bk + 1, bk + 1 + 1⟩
def opD (c : Nat → List Int) (m : Nat) (h : Hd) (ia : Nat) (nx : Int) : PgD := ⟨c, m, h, ia, nx, h.sec, 0, fun _ => none, fun _ => false, fun _ => none⟩
structure LpW (W wq wr : World) (s : PgS) (F G : Nat → Prop) (d : PgD) : Prop where
  ps : PSv wr s G d
  kp : Kp F wq wr
  sub : ∀ j, G j → F j ∨ wq.heap.size ≤ j
theorem applyT_wf {P : Nat} (ts : List ByteArray) : ∀ (l : List Tx) (hl : l.length = ts.length), (∀ i (hi : i < ts.length) (hj : i < l.length), TxIs P ts[i] l[i]) → ∀ (L : Nat) (c : Nat → List Int), (∀ j, (c j).length = 512 ∧ Byt (c j)) → ∀ j, (applyT c L l j).length = 512 ∧ Byt (applyT c L l j) := by
  induction ts with
  | nil =>
    intro l hl _ L c hc
    cases l with
    | nil => exact hc
    | cons x l => cases hl
  | cons t ts ih =>
    intro l hl h L c hc
    cases l with
    | nil => cases hl
    | cons x l =>
      have h0 := h 0 (by simp) (by simp)
      exact ih l (by simpa using hl) (fun i hi hj => h (i + 1) (by simpa using hi) (by simpa using hj)) L (putPg c L x.1 x.2) (tx_wf h0 L c hc)
set_option maxHeartbeats 4000000 in
set_option maxRecDepth 20000 in
theorem popen2_any (bd n : Nat) (F : Nat → Prop) (c : Nat → List Int) (m P : Nat) (nt : ByteArray) (ws : List Nat) (xs : Nat → Option Hd) (h : Hd) (ia : Nat) (W : World) (hd : Ds W bd n F c m) (hi : ia ≤ 1) (hg1 : h.gen < 4294967296)
    (hx : ∀ i, i < 2 → HdIs (c i) (xs i)) (hb : bestTo xs 2 = some (h, ia)) (hs1 : 1 ≤ h.sec) (hs : h.sec < 60000) (hP0 : 64 ≤ P) (hP1 : P ≤ 1024) (hn : 2 + h.sec + P ≤ n) (ys : Nat → Option Sh) (hy : ∀ i, i < h.sec → ShIs (c (2 + i)) (ys i)) (ht : Tab W) (hgd : h.good)
    (t : Nat → Sh) (k : Nat) (hk : k ≤ 100000) (hfk : h.first + k < 18446744073709551616) (hTs : ∀ i : Nat, i < k → fTo ys h.sec h.sec (h.first + i) = some (t i)) (hE : fTo ys h.sec h.sec (h.first + k) = none) (hq : ∀ q s, fTo ys h.sec h.sec q = some s → 0 ≤ q ∧ q + 1 < 18446744073709551616)
    (l : List Tx) (hll0 : l.length = (roll t k).1.length) (hl : ∀ i (hi : i < (roll t k).1.length) (hj : i < l.length), TxIs P ((roll t k).1[i]) l[i]) (hm : m + cntT l ≤ 80000)
    (hnote : h.note = noteS P nt) (hnt : nt.size ≤ 40) (hc : ∀ j, (c j).length = 512 ∧ Byt (c j)) (hok : MapOk P ws) (hcl : Clean P ws) (h0 : bitAt ws 0 = true) (hpg : applyT c h.sec l (2 + h.sec) = nI (bytesTo ws P)) (hF1 : ¬ F 0) :
    Calls Tryz.prog 65 #[.pointer (some ⟨bd, 0, none⟩)] W (POpenX bd n P nt F (applyT c h.sec l) h ia (fTo ys h.sec h.sec) W) := by
  have HWal := hide (walopen2_any bd n F c m xs h ia W hd (by omega) hx hb hs1 hs (by omega) ys hy ht hgd t k hk hfk hTs hE hq)
  have HTxs := hide hl
  have hk0 := hk
  have HD := hide hd
  have HT := hide ht
  have HGd := hide hgd
  have HC := hide hc
  have hmm := @run_makeMap Tryz.prog
  have HNt := hide (noteS_bs P nt)
  have HNote := hide hnote
  have HPg := hide hpg
  have HOk := hide hok
  have HCl := hide hcl
  have HB0 := hide h0
  clear hd ht hgd hc hx hb hy hnote hpg hok hcl h0 hl hTs hE hq hk hfk
  have HCa := hide (show ∀ j, (applyT c h.sec l j).length = 512 ∧ Byt (applyT c h.sec l j) from applyT_wf (P := P) (roll t k).1 l hll0 HTxs.out h.sec c HC.out)
  have hts : (roll t k).1.length ≤ 100000 := Nat.le_trans (roll_len t k) hk0
  generalize (roll t k).1 = ts at *
  generalize fTo ys h.sec h.sec = f at *
  generalize hR : POpenX _ _ _ _ _ _ _ _ _ _ = R
  have HR := hide hR
  clear hR
  go_enter Tryz.func65, Tryz.ntmps65
  go_wp2_with fail
  refine HWal.out.mono ?_
  rintro e w1 ⟨bl, v1, nx, rfl, hown, hlg, hnx, hbl, hb1⟩
  obtain ⟨A1, cp1, rfl⟩ := owns_slice hown
  have HOwn := hide hown
  have HNx := hide hnx
  have HLg1 := hide hlg
  have HB1 := hide hb1
  have hll := hlg.whole.lt
  have hF0 : ∀ k, F k → k < W.heap.size := fun k hk => HD.out.lt hk
  clear hlg hb1 hown hnx
  go_upto_region 5 with fail
  obtain ⟨o1, o2, o3, o4, o5⟩ := open_boxes w1 [.pointer (some ⟨bl, 0, none⟩), .pointer (some ⟨bd, 0, none⟩), .int .i64 0, .string ByteArray.empty, .map (some w1.heap.size), .map (some (w1.heap.size + 1)), .map (some (w1.heap.size + 1 + 1)), .bool false] 160
  have HO4 := hide (show OpX W w1 _ bd n F c m h ia nx bl w1.heap.size _ from ⟨HLg1.out.below o5, (HD.out.below HB1.out).below o5, o1, o2, o3, o4, HB1.out.trans (o5.mono HB1.out.size), o5⟩)
  have hbW : W.heap.size ≤ w1.heap.size := HB1.out.size
  clear o1 o2 o3 o4 o5 hmm
  change Code.wp _ _ _ _ ((((w1.alloc (.map #[] 0)).alloc (.map #[] 0)).alloc (.map #[] 0)).alloc (.cells [.pointer (some ⟨bl, 0, none⟩), .pointer (some ⟨bd, 0, none⟩), .int .i64 0, .string ByteArray.empty, .map (some w1.heap.size), .map (some (w1.heap.size + 1)), .map (some (w1.heap.size + 1 + 1)), .bool false].toArray 160))
  generalize (((w1.alloc (.map #[] 0)).alloc (.map #[] 0)).alloc (.map #[] 0)).alloc (.cells [.pointer (some ⟨bl, 0, none⟩), .pointer (some ⟨bd, 0, none⟩), .int .i64 0, .string ByteArray.empty, .map (some w1.heap.size), .map (some (w1.heap.size + 1)), .map (some (w1.heap.size + 1 + 1)), .bool false].toArray 160) = w4 at *
  generalize hbk : w1.heap.size = bk at *
  have hw1 : w1.heap.size ≤ bk := Nat.le_of_eq hbk
  have HBk := hide hbk
  clear hbk
  go_wp2_with fail
  refine (lnote_any HO4.out.lg).mono ?_
  rintro e w' ⟨rfl, rfl⟩
  obtain ⟨A5, c5, w5, hrun, hm5, hb5⟩ := conv_bytes w4 h.note
  have HM5 := hide hm5
  have HO5 := hide (HO4.out.below hw1 hb5)
  clear hm5 hb5
  have hlb := bs_len h.note
  have HOf := hide (of_any A5 (bs h.note) c5 w5 HM5.out (by rw [hlb, HNote.out, noteS, strOfNums_size, List.length_append, Pl.be_len, bs_len]; omega))
  rw [hlb] at HOf
  clear hlb
  go_wp2_with fail
  refine HOf.out.mono ?_
  rintro e w6 ⟨bo, g, A6, c6, rfl, hop, hb6, hbo, hg⟩
  have hlt5 := HO5.out.st.lt
  have HO6 := hide (HO5.out.below hw1 hb6)
  have HOp := hide hop
  clear hop hb6 HOf hrun
  have hnF3 : ¬ F (bk + 1 + 1 + 1) := fun hf => by have := hF0 _ hf; omega
  have hGo : ∀ k, OnlyF bo k → bk + 1 + 1 + 1 < k ∧ W.heap.size ≤ k ∧ k ≠ bl ∧ ¬ F k := fun k hk => by
    have hk' : k = bo := hk
    exact ⟨by omega, by omega, by omega, fun hf => by have := hF0 _ hf; omega⟩
  rw [HNote.out, HNt.out] at HOp
  have hun := un_be2 P (by omega)
  have hTk := take_any bo g A6 c6 2 (Pl.be 2 (P : Int) ++ bs nt) w6 HOp.out (.inr (.inl rfl)) (by rw [List.length_append, Pl.be_len]; omega) (Byt.app (Pl.be_byt _ _) (bs_byt nt))
  have ht2 : (Pl.be 2 (P : Int) ++ bs nt).take 2 = Pl.be 2 (P : Int) := List.take_left' (Pl.be_len _ _)
  have hd2 : (Pl.be 2 (P : Int) ++ bs nt).drop 2 = bs nt := List.drop_left' (Pl.be_len _ _)
  rw [ht2, hd2, hun] at hTk
  have HTk := hide hTk
  clear hTk ht2 hd2 hun
  go_wp2_with fail
  refine HTk.out.mono ?_
  rintro e w7 ⟨rfl, A7, c7, hop7, hk7⟩
  have HO7 := hide (HO6.out.kp hk7 hw1 hGo)
  have HOp7 := hide hop7
  clear hop7 hk7 HTk
  have hw7 : IntKind.i64.wrap (P : Int) = (P : Int) := IntWalk.i64_in _ (by omega)
  have e2 := HO7.out.st.cell 2
  have x2 := HO7.out.st.frozen 2
  simp only [List.getElem?_cons_zero, List.getElem?_cons_succ] at e2
  go_upto_region 7 with fail
  have HO8 := hide (HO7.out.put 2 (.int .i64 (P : Int)) hw1 hbW hll hnF3)
  have hk8 : Kp (OnlyF (bk + 1 + 1 + 1)) w7 (w7.setCell ⟨bk + 1 + 1 + 1, 2, none⟩ (.int .i64 (P : Int))) := Kp.set_only _ _ _ _
  have HOp8 := hide (HOp7.out.kp hk8 (fun e => by have : bo = bk + 1 + 1 + 1 := e; omega) (fun e => by have : g = bk + 1 + 1 + 1 := e; omega))
  clear e2 x2 hk8
  generalize w7.setCell ⟨bk + 1 + 1 + 1, 2, none⟩ (.int .i64 (P : Int)) = w8 at *
  have HLf := hide (left_any bo g A7 c7 (bs nt) 0 w8 HOp8.out)
  have hTx := otext_any bo g A7 c7 (bs nt).length (bs nt) w8 HOp8.out (Nat.le_refl _)
  rw [List.take_of_length_le (Nat.le_refl _), nums_bs, List.drop_of_length_le (Nat.le_refl _), bs_len] at hTx
  rw [bs_len] at HLf
  have HTx := hide hTx
  clear hTx
  go_wp2_with fail
  refine HLf.out.mono ?_
  rintro e w' ⟨rfl, rfl⟩
  go_wp2_with fail
  refine HTx.out.mono ?_
  rintro e w9 ⟨rfl, A9, c9, hop9, hk9⟩
  have HO9 := hide (HO8.out.kp hk9 hw1 hGo)
  have HOp9 := hide hop9
  clear hop9 hk9 HTx HLf
  have e3 := HO9.out.st.cell 3
  have x3 := HO9.out.st.frozen 3
  simp only [List.getElem?_cons_zero, List.getElem?_cons_succ, List.set_cons_succ, List.set_cons_zero] at e3
  go_upto_region 8 with fail
  have hoa := HO9.out.put 3 (.string nt) hw1 hbW hll hnF3
  simp only [List.set_cons_succ, List.set_cons_zero] at hoa
  have HOa := hide hoa
  have hka : Kp (OnlyF (bk + 1 + 1 + 1)) w9 (w9.setCell ⟨bk + 1 + 1 + 1, 3, none⟩ (.string nt)) := Kp.set_only _ _ _ _
  have HOpa := hide (HOp9.out.kp hka (fun e => by have : bo = bk + 1 + 1 + 1 := e; omega) (fun e => by have : g = bk + 1 + 1 + 1 := e; omega))
  clear e3 x3 hka hoa
  generalize w9.setCell ⟨bk + 1 + 1 + 1, 3, none⟩ (.string nt) = wa at *
  have hp1 : PS wa (bk + 1 + 1 + 1) bl bd n F c m h ia nx h.sec P nt bk (bk + 1) (bk + 1 + 1) 0 (.map []) (.map []) (.map []) :=
    ⟨HOa.out.st, ⟨HOa.out.lg, HOa.out.ds, fun hf => by have := hF0 _ hf; omega⟩, HOa.out.k, HOa.out.t, HOa.out.c, ⟨hnF3, fun hf => by have := hF0 _ hf; omega, fun hf => by have := hF0 _ hf; omega, fun hf => by have := hF0 _ hf; omega⟩,
      ⟨by omega, by omega, by omega, by omega⟩, ⟨by omega, by omega, by omega⟩, ⟨by omega, by omega, by omega⟩⟩
  have hps : PSv wa ⟨bk + 1 + 1 + 1, bl, bd, n, P, nt, bk, bk + 1, bk + 1 + 1⟩ F ⟨c, m, h, ia, nx, h.sec, 0, fun _ => none, fun _ => false, fun _ => none⟩ :=
    ⟨.map [], .map [], .map [], hp1, PgV.empty, ⟨fun _ => rfl, fun kl h => by cases h⟩, PgV.empty⟩
  have HPS := hide hps
  have hEnd := end_any bo g A9 c9 [] 0 wa HOpa.out
  have hee : endErr [] 0 = 0 := rfl
  rw [hee] at hEnd
  have HEnd := hide hEnd
  have HBe := hide (show Calls Tryz.prog 46 #[.pointer (some ⟨bk + 1 + 1 + 1, 0, none⟩)] wa fun e w' => e = .returned (.int .i64 ((2 + h.sec + P : Nat) : Int)) ∧ ∃ k, w' = wa.drewN k from behind_any hp1 (by omega) (by omega))
  have c2 : wa.cell? ⟨bk + 1 + 1 + 1, 2, none⟩ = some (.int .i64 (P : Int)) := HOa.out.st.cell 2
  have c3 : wa.cell? ⟨bk + 1 + 1 + 1, 3, none⟩ = some (.string nt) := HOa.out.st.cell 3
  have d1 : decide ((P : Int) < 64) = false := by simp; omega
  have d2 : decide ((1024 : Int) < (P : Int)) = false := by simp; omega
  have d3 : decide ((n : Int) < ((2 + h.sec + P : Nat) : Int)) = false := by simp; omega
  have d4 : decide ((40 : Int) < (nt.size : Int)) = false := by simp; omega
  clear hp1 hps hEnd hee hw7
  go_wp2_with fail
  refine HEnd.out.mono ?_
  rintro e w' ⟨rfl, rfl⟩
  go_wp2_with fail
  refine HBe.out.mono ?_
  rintro e w' ⟨rfl, kq, rfl⟩
  have HBq := hide (below_drewN (Below.refl wa.heap.size wa) kq)
  have HPq := hide (HPS.out.below HBq.out)
  have HDq := hide (HOa.out.ds.below HBq.out)
  have HBW := hide (HOa.out.bel.trans (HBq.out.mono HOa.out.bel.size))
  have HLenq := hide (show Calls Tryz.prog 21 #[.pointer (some ⟨bd, 0, none⟩)] (wa.drewN kq) (fun e w' => e = .returned (.int .i64 n) ∧ wa.drewN kq = w') from by
    obtain ⟨A0, k0, hln⟩ := HDq.out.len
    exact dlen_any bd n k0 A0 _ hln)
  have HOq := hide (HOa.out.below hw1 HBq.out)
  clear c2 c3
  generalize wa.drewN kq = wq at *
  have c3 : wq.cell? ⟨bk + 1 + 1 + 1, 3, none⟩ = some (.string nt) := HOq.out.st.cell 3
  go_wp2_with fail
  refine HLenq.out.mono ?_
  rintro e w' ⟨rfl, rfl⟩
  have HBq1 := hide HOq.out.bel1
  clear HBq HPS HOa HOpa
  go_wp2_with fail
  clear c3 HOq
  have hszq := HBW.out.size
  have hlq5 : bl < wq.heap.size := HPq.out.lts.2.2.2.2
  have hlq1 : bk + 1 + 1 + 1 < wq.heap.size := HPq.out.lts.1
  have hq1 := HBq1.out.size
  go_loopw [84] (fun x wr => ∃ j : Nat, j ≤ ts.length ∧ x = .int .i64 j ∧ ∃ G mk, mk + cntT (l.drop j) ≤ 80000 ∧ LpW W wq wr ⟨bk + 1 + 1 + 1, bl, bd, n, P, nt, bk, bk + 1, bk + 1 + 1⟩ F G ⟨applyT c h.sec (l.take j), mk, h, ia, nx, h.sec, 0, fun _ => none, fun _ => false, fun _ => none⟩) (fun x _ => ts.length - (Go.RowKit.intOf x).toNat)
  case atStart => exact ⟨0, Nat.zero_le _, rfl, F, m, hm, ⟨HPq.out, Kp.refl _ _, fun j hj => .inl hj⟩⟩
  case round =>
    obtain ⟨j, hj, rfl, G, mk, hmk, hlp⟩ := hrel
    have HLp := hide hlp
    have hG0 : ∀ k, G k → k < wr.heap.size := fun k hk => by
      obtain ⟨_, _, _, hp, _⟩ := hlp.ps
      exact hp.ld.ds.lt hk
    have hszr := hlp.kp.size
    have hnbl : ¬ G bl := fun hf => (hlp.sub _ hf).elim (fun hf => by have := hF0 _ hf; omega) (fun hge => by omega)
    have hnsb : ¬ G (bk + 1 + 1 + 1) := fun hf => (hlp.sub _ hf).elim (fun hf => by have := hF0 _ hf; omega) (fun hge => by omega)
    clear hlp HPq
    by_cases hlt : j < ts.length
    · have hjl : j < l.length := by omega
      obtain ⟨g, hA, hg0, hg1, hgc⟩ := owns_form HOwn.out (by rw [strs, List.length_map]; omega)
      have hst : (strs ts).length = ts.length := by rw [strs, List.length_map]
      subst hA
      have hcell : wr.cell? ⟨g, j, none⟩ = some (.string ts[j]) := by
        rw [HLp.out.kp.cell (p := ⟨g, j, none⟩) (by show g < wq.heap.size; omega) (fun e => by have := hF0 _ e; have e' : g < W.heap.size := this; omega), HBq1.out.cell (p := ⟨g, j, none⟩) hg1, hgc j (by omega)]
        simp [strs]
      obtain ⟨⟨es, htx, hge, hne, hn1, hfe⟩, hri, hkl, hks⟩ := HTxs.out j hlt hjl
      have happ := applyT_take c h.sec l j hjl
      have hcnt : cntT (l.drop j) = l[j].2.length + cntT (l.drop (j + 1)) := by
        rw [List.drop_eq_getElem_cons hjl]
        rfl
      generalize l[j] = x at *
      obtain ⟨xf, xk⟩ := x
      simp only at hfe hri hkl hks happ hcnt
      have HApp := hide happ
      have HGe := hide hge
      have HTx := hide htx
      have HFe := hide hfe
      have HRi := hide hri
      have HKs := hide hks
      clear happ hge htx hfe hri hks hgc hst
      generalize ts[j] = tx at *
      have c2 : wr.cell? ⟨bk + 1 + 1 + 1, 2, none⟩ = some (.int .i64 (P : Int)) := by
        obtain ⟨_, _, _, hp, _⟩ := HLp.out.ps
        exact hp.st.cell 2
      have HIm := hide (images_any (bk + 1 + 1 + 1) P tx es wr hP1 c2 HGe.out hne hn1 HTx.out)
      clear c2
      go_wp2_with fail
      refine HIm.out.mono ?_
      rintro e w8 ⟨bm, Dm, rfl, hmap, hv, hbm, hb8⟩
      have HPS8 := hide (HLp.out.ps.below hb8)
      have HK8 := hide (HLp.out.kp.same (Kp.of_below hb8))
      rw [← HFe.out] at hv
      have HMap := hide hmap
      have HV := hide hv
      have hs8 := hb8.size
      clear hmap hv hb8 HIm hcell
      have hnbm : ¬ G bm := fun hf => by have := hG0 _ hf; omega
      have HWr := hide (show Calls Tryz.prog 103 #[.pointer (some ⟨bk + 1 + 1 + 1, 0, none⟩), .map (some bm)] w8 (DsRes bd n G (putPg (applyT c h.sec (l.take j)) h.sec xf xk) (mk + xk.length) w8) from by
        obtain ⟨_, _, _, hp, _⟩ := HPS8.out
        exact written_any (bk + 1 + 1 + 1) bl bd n G _ mk h ia nx h.sec bm es.length Dm xf xk P w8 (hp.st.cell 0) (hp.st.cell 1) hp.ld.lg hp.ld.ds (by omega) (by omega) HMap.out HV.out HRi.out hkl HKs.out hn hP1 hnsb hnbl hnbm)
      go_wp2_with fail
      refine HWr.out.mono ?_
      rintro e w9 ⟨rfl, G9, g1, g2, g3⟩
      have HLn := hide (show LpW W wq w9 ⟨bk + 1 + 1 + 1, bl, bd, n, P, nt, bk, bk + 1, bk + 1 + 1⟩ F G9 ⟨applyT c h.sec (l.take (j + 1)), mk + xk.length, h, ia, nx, h.sec, 0, fun _ => none, fun _ => false, fun _ => none⟩ from by
        have hld : LD w9 bl bd n G9 (putPg (applyT c h.sec (l.take j)) h.sec xf xk) (mk + xk.length) h ia nx h.sec := by
          obtain ⟨_, _, _, hp, _⟩ := HPS8.out
          exact ⟨hp.ld.lg.kp g2 hnbl, g1, fun hf => (g3 _ hf).elim hnbl (fun hh => by omega)⟩
        refine ⟨?_, HK8.out.trans g2 HLp.out.sub, fun i hi => (g3 i hi).elim (HLp.out.sub i) (fun hh => .inr (by omega))⟩
        rw [HApp.out]
        exact HPS8.out.disk hld (g2.mono (fun i hi => .inl (.inr hi))) g3)
      clear g1 g2 g3 HWr HLp
      go_wp2_with fail
      go_roundw
      case rel =>
        refine ⟨j + 1, ?_, by go_num, G9, mk + xk.length, ?_, HLn.out⟩
        · exact hlt
        · omega
      case measure => simp [Go.RowKit.intOf]; omega
    · obtain rfl : j = ts.length := by omega
      have hlp := HLp.out
      rw [← hll0, List.take_of_length_le (Nat.le_refl _)] at hlp
      have HPr := hide hlp.ps
      have HKr := hide hlp.kp
      have HSr := hide hlp.sub
      have HDr := hide (show Ds wr bd n G (applyT c h.sec l) mk from by
        obtain ⟨_, _, _, hp, _⟩ := hlp.ps
        exact hp.ld.ds)
      have HTr := hide ((HT.out.below HBW.out).kp hlp.kp hF1)
      have HKW := hide ((Kp.of_below (F := F) HBW.out).same hlp.kp)
      have hmk' : mk ≤ 80000 := by omega
      have hlr := hlp.ps.lts
      have hbW2 : W.heap.size ≤ bk := hbW
      clear hlp HLp hmk
      generalize applyT c h.sec l = ca at *
      have ef1 : ∀ args w, (callFunc 99 args).run Tryz.prog w = .ok (.enter 99 args) w := enters_of Tryz.func99 (by kernel_rfl) rfl
      have ef2 : ∀ args w, (callFunc 105 args).run Tryz.prog w = .ok (.enter 105 args) w := enters_of Tryz.func105 (by kernel_rfl) rfl
      have HE1 := hide ef1
      have HE2 := hide ef2
      clear ef1 ef2
      go_wp2_with fail
      have hx : Whole (wr.alloc (.cells #[.func (.func 99) #[.pointer (some ⟨bd, 0, none⟩)] #[], .func (.func 105) #[.pointer (some ⟨bl, 0, none⟩)] #[]] 67)) wr.heap.size 67 [.func (.func 99) #[.pointer (some ⟨bd, 0, none⟩)] #[], .func (.func 105) #[.pointer (some ⟨bl, 0, none⟩)] #[]] := Whole.new wr _ _
      have hbS : Below wr.heap.size wr (wr.alloc (.cells #[.func (.func 99) #[.pointer (some ⟨bd, 0, none⟩)] #[], .func (.func 105) #[.pointer (some ⟨bl, 0, none⟩)] #[]] 67)) := (Below.refl _ _).alloc (Nat.le_refl _) _
      have HPS := hide (HPr.out.below hbS)
      have HDS := hide (HDr.out.below hbS)
      have HTS := hide (HTr.out.below hbS)
      have HBS := hide (HKW.out.same (Kp.of_below hbS))
      have hnb : ¬ G wr.heap.size := fun hf => by have := hG0 _ hf; omega
      clear hbS
      generalize wr.alloc (.cells #[.func (.func 99) #[.pointer (some ⟨bd, 0, none⟩)] #[], .func (.func 105) #[.pointer (some ⟨bl, 0, none⟩)] #[]] 67) = wS at *
      generalize wr.heap.size = bb at *
      have hll' : bl < wS.heap.size := by have := HPS.out.lts; exact this.2.2.2.2
      have hG1 : ¬ G 0 := fun hf => (HSr.out _ hf).elim hF1 (fun hh => by have := hlr.1; omega)
      have hAll := all2_any 99 105 #[.pointer (some ⟨bd, 0, none⟩)] #[.pointer (some ⟨bl, 0, none⟩)] #[] #[] bb wS
        (fun w => ∃ F1, PSv w ⟨bk + 1 + 1 + 1, bl, bd, n, P, nt, bk, bk + 1, bk + 1 + 1⟩ F1 ⟨ca, 0, h, ia, nx, h.sec, 0, fun _ => none, fun _ => false, fun _ => none⟩ ∧ Kp G wS w ∧ ∀ k, F1 k → G k ∨ wS.heap.size ≤ k)
        (fun w => ∃ F2, PSv w ⟨bk + 1 + 1 + 1, bl, bd, n, P, nt, bk, bk + 1, bk + 1 + 1⟩ F2 (openX ca h ia nx) ∧ Kp (lF bl G) wS w ∧ ∀ k, F2 k → G k ∨ wS.heap.size ≤ k)
        HE1.out HE2.out (hx.cell 0) (fun w hr => by
          obtain ⟨F1, _, hk, _⟩ := hr
          exact (hk.cell (p := ⟨bb, 1, none⟩) hx.lt hnb).trans (hx.cell 1))
        (by
          show Calls Tryz.prog 99 #[.pointer (some ⟨bd, 0, none⟩)] wS _
          refine (HDS.out.flush (by omega)).mono ?_
          rintro e w ⟨rfl, F1, g1, g2, g3⟩
          have hlg : Lg wS bl bd h ia nx h.sec := by obtain ⟨_, _, _, hp, _⟩ := HPS.out; exact hp.ld.lg
          have hld : LD w bl bd n F1 ca 0 h ia nx h.sec := ⟨hlg.kp g2 hnbl, g1, fun hf => (g3 _ hf).elim hnbl (fun hh => by omega)⟩
          exact ⟨rfl, F1, HPS.out.disk hld (g2.mono (fun i hi => .inl (.inr hi))) g3, g2, g3⟩)
        (fun w hr => by
          obtain ⟨F1, hp, hk, hsub⟩ := hr
          show Calls Tryz.prog 105 #[.pointer (some ⟨bl, 0, none⟩)] w _
          have hld : LD w bl bd n F1 ca 0 h ia nx h.sec := by obtain ⟨_, _, _, h1, _⟩ := hp; exact h1.ld
          refine (trim_any bl bd n F1 ca 0 h ia nx h.sec w hld (by omega) HGd.out hg1 hi ⟨by have := HNx.out.1; have := HGd.out.2.1.1; omega, HNx.out.2.1⟩ (by omega) (HTS.out.kp hk hG1)).mono ?_
          rintro e w' ⟨rfl, F2, l1, l2, l3⟩
          refine ⟨rfl, F2, hp.disk l1 l2 l3, (hk.mono (G := lF bl G) (fun i hi => .inl (.inr hi))).trans l2 (fun i hi => hi.elim (fun e => .inl (.inl e)) (fun hf => (hsub i hf).imp (fun h => .inr h) id)), fun k hk' => (l3 k hk').elim (hsub k) (fun hh => .inr (Nat.le_trans hk.size hh))⟩)
      have HAll := hide hAll
      clear hAll hx HE1 HE2
      refine HAll.out.mono ?_
      rintro e w2 ⟨rfl, F2, hp2, hk2, hs2⟩
      have HP2 := hide hp2
      have HK2 := hide hk2
      have HS2 := hide hs2
      clear hp2 hk2 hs2 HAll
      have hgood : (trimHd h nx).good := ⟨by have := HGd.out.1; show 0 ≤ h.gen + 1 ∧ h.gen + 1 < _; omega, ⟨by have := HNx.out.1; have := HGd.out.2.1.1; show 0 ≤ nx; omega, HNx.out.2.1⟩, HGd.out.2.2⟩
      have hc' : ∀ j, ((openX ca h ia nx).c j).length = 512 ∧ Byt ((openX ca h ia nx).c j) := fun j => by
        show (upd ca (1 - ia) (trimHd h nx).bytes j).length = 512 ∧ _
        show _ ∧ Byt (upd ca (1 - ia) (trimHd h nx).bytes j)
        unfold upd
        split
        · exact ⟨headB_len _ _ _ _ (by have := hgood.2.2.2; omega), headB_byt _ _ _ _ (by have := hgood.2.2.2; omega)⟩
        · exact HCa.out j
      have ho : PgOk ⟨bk + 1 + 1 + 1, bl, bd, n, P, nt, bk, bk + 1, bk + 1 + 1⟩ (openX ca h ia nx) := ⟨show 1 ≤ P by omega, show P ≤ 1024 by omega, Nat.zero_le _, Nat.zero_le _, show h.sec ≤ 60000 by omega, show 2 + h.sec + P ≤ n from hn, hc'⟩
      have hpa : pageAt (openX ca h ia nx) 0 = nI (bytesTo ws P) := by
        show upd ca (1 - ia) (trimHd h nx).bytes (2 + h.sec + 0) = _
        unfold upd
        rw [if_neg (by omega), Nat.add_zero]
        exact HPg.out
      have hx2 : MapPg ⟨bk + 1 + 1 + 1, bl, bd, n, P, nt, bk, bk + 1, bk + 1 + 1⟩ (openX ca h ia nx) ws := ⟨hpa, HOk.out, HCl.out, HB0.out⟩
      have HUs := hide (show Calls Tryz.prog 106 #[.pointer (some ⟨bk + 1 + 1 + 1, 0, none⟩)] w2 (fun e W' => e = .returned (.tuple #[.agg (mapC P ws).toArray, .int .i64 0]) ∧ PSv W' ⟨bk + 1 + 1 + 1, bl, bd, n, P, nt, bk, bk + 1, bk + 1 + 1⟩ F2 ((openX ca h ia nx).read 0) ∧ Kp (TwoF (bk + 1 + 1 + 1) bk) w2 W') from used_any ⟨bk + 1 + 1 + 1, bl, bd, n, P, nt, bk, bk + 1, bk + 1 + 1⟩ F2 (openX ca h ia nx) ws w2 HP2.out ho hx2)
      have HI := hide (show (Tryz.prog.info? 194).map (·.size) = some (mapC P ws).toArray.size from mapInfo HOk.out.len)
      have HOne := hide (all_oneCell_toArray (mapC_one P ws))
      have hz : (mapC 0 zeroWs).toArray.size = (mapC P ws).toArray.size := by rw [List.size_toArray, List.size_toArray, mapC_len rfl, mapC_len HOk.out.len]
      have HZ := hide hz
      clear hgood hc' ho hpa hx2 hz
      go_wp2_with fail
      refine HUs.out.mono ?_
      rintro e w3 ⟨rfl, hp3, hk3⟩
      have hb4 : Below w3.heap.size w3 (w3.alloc (.cells (mapC P ws).toArray 194)) := (Below.refl _ _).alloc (Nat.le_refl _) _
      have HP4 := hide (hp3.below hb4)
      have HK4 := hide (hk3.same (Kp.of_below hb4))
      clear hp3 hk3 hb4
      go_wp2_with (refine wpList_store_new w3 rfl 194 _ _ rfl _ (mapC P ws).toArray rfl rfl HI.out HZ.out HOne.out ?_)
      rw [← HR.out]
      have hsS := HBS.out.size
      refine ⟨nx, HNx.out, ⟨bk + 1 + 1 + 1, bl, bd, n, P, nt, bk, bk + 1, bk + 1 + 1⟩, rfl, rfl, rfl, rfl, ⟨by show W.heap.size ≤ bk + 1 + 1 + 1; omega, hbW, by show W.heap.size ≤ bk + 1; omega, by show W.heap.size ≤ bk + 1 + 1; omega, hbl⟩, rfl, F2, HP4.out, ?_, fun k hk => (HS2.out k hk).elim (fun hg => (HSr.out k hg).imp id (fun h => by omega)) (fun h => .inr (by omega))⟩
      refine ((HBS.out.trans HK2.out (fun i hi => hi.elim (fun e => .inr (by omega)) (fun hf => (HSr.out i hf).imp id (fun h => by omega)))).trans HK4.out (fun i hi => .inr ?_))
      unfold TwoF at hi
      omega
end Go.Proofs.YtnnfiicmplkakaaGreatDoor
