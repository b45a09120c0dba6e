/- Walks of the document's numbers, names and bytes. Walks of package keep: the keys that begin with a text (an iterator, collected). Walk of package keep: a book's bytes. Walks of package pack: an opener that asks for more than there is, or has failed; Name of whatever bytes. Walk of package keep: the book of bytes. -/
import Derived.Test.YtokibbgahefkbaaGreatDoorV3
import Derived.Test.YtokibbgahefkbaaGreatDoorV1
import Derived.Test.YtokibbgahefkbaaGreatDoorV2
import Derived.Shelf.Abstract
import Derived.Shelf.RegionOpen
import Derived.OwnWalkIn
import Derived.TacticsInMore
import Derived.LoopNIn
import Derived.LoopIn
import Derived.Maps.OwnIn
import Derived.Stop.RegionWithIn
import Derived.Maps.AppendAt
import Derived.Deep.RegionHeld
set_option linter.all false
namespace Go.Proofs.YtokibbgahefkbaaGreatDoor.Fe
open Go.RowKit Go.Shelf

theorem nums_data (xs : List Int) : (strOfNums xs).data = (xs.map fun n => UInt8.ofNat n.toNat).toArray := rfl
theorem nums_app (a b : List Int) : strOfNums a ++ strOfNums b = strOfNums (a ++ b) := by
  refine bytes_ext ?_
  rw [ByteArray.data_append, Array.toList_append, nums_data, nums_data, nums_data]
  simp
theorem nums_nil : strOfNums [] = ByteArray.empty := rfl
/-- the bytes of a number, lowest last, as they come -/
theorem be_one (n : Int) (h0 : 0 ≤ n) (h1 : n < 256) : Pl.be 1 n = [n] := by
  simp [Pl.be, Pl.beTo, List.range_succ]
  omega
theorem be_two (n : Int) : Pl.be 2 n = [n / 256 % 256, n % 256] := by
  simp [Pl.be, Pl.beTo, List.range_succ]
def numS (k : Nat) (n : Int) : ByteArray := strOfNums (Pl.be k n)
set_option maxHeartbeats 2000000 in
set_option maxRecDepth 20000 in
theorem num_any (k : Nat) (hk : k = 1 ∨ k = 2) (n : Int) (h0 : 0 ≤ n) (h1 : n < 256 ^ k) (w : World) :
    Calls Tryz.prog 66 #[.int .i64 (k : Int), .int .u64 n] w fun e w' => e = .returned (.tuple #[.string (numS k n), .bool true]) ∧ Below w.heap.size w w' := by
  have hk2 : (k : Int) = 1 ∨ (k : Int) = 2 := by omega
  have hn2 : n < 65536 := by rcases hk with rfl | rfl <;> omega
  have HFin := hide (show ∀ (i : Nat) (s : ByteArray) (m : Int), ¬ (i : Int) < (k : Int) → ((i = 0 ∧ s = ByteArray.empty ∧ m = n) ∨ (i = 1 ∧ s = strOfNums [n % 256] ∧ m = n / 256) ∨ (i = 2 ∧ s = strOfNums [n / 256 % 256, n % 256] ∧ m = n / 256 / 256)) → i ≤ k → s = numS k n ∧ m = 0 from by
    rintro i s m h1' (⟨rfl, rfl, rfl⟩ | ⟨rfl, rfl, rfl⟩ | ⟨rfl, rfl, rfl⟩) hik
    · rcases hk with rfl | rfl <;> omega
    · obtain rfl : k = 1 := by omega
      unfold numS
      rw [be_one n h0 (by omega)]
      exact ⟨by congr 2; omega, by omega⟩
    · obtain rfl : k = 2 := by omega
      unfold numS
      rw [be_two]
      exact ⟨rfl, by omega⟩)
  clear h1
  rcases hk with rfl | rfl
  · clear hk2
    go_enter Tryz.func66, Tryz.ntmps66
    go_upto_region 5 with fail
    go_loopw [1, 6, 7] (fun x y z wr => ∃ (i : Nat) (s : ByteArray) (m : Int), i ≤ 1 ∧ x = .int .u64 m ∧ y = .string s ∧ z = .int .i64 (i : Int) ∧ ((i = 0 ∧ s = ByteArray.empty ∧ m = n) ∨ (i = 1 ∧ s = strOfNums [n % 256] ∧ m = n / 256) ∨ (i = 2 ∧ s = strOfNums [n / 256 % 256, n % 256] ∧ m = n / 256 / 256)) ∧ Below w.heap.size w wr) (fun _ _ z _ => 2 - (Go.RowKit.intOf z).toNat)
    case atStart => exact ⟨0, ByteArray.empty, n, Nat.zero_le _, rfl, rfl, rfl, .inl ⟨rfl, rfl, rfl⟩, Below.refl _ _⟩
    case round =>
      obtain ⟨i, s, m, hik, rfl, rfl, rfl, hor, hb⟩ := hrel
      have HB := hide hb
      have HOr := hide hor
      clear hb
      by_cases hlt : i < 1
      · have hltI : (i : Int) < (1 : Int) := by omega
        have hm0 : 0 ≤ m ∧ m < 65536 := by rcases hor with ⟨_, _, rfl⟩ | ⟨_, _, rfl⟩ | ⟨_, _, rfl⟩ <;> omega
        have hmw : IntKind.u8.wrap (m % 256) = m % 256 := by rw [IntKind.wrap_u8]; omega
        have hwh := Whole.new wr [.int .u8 (m % 256)] 5
        have hcv := conv_str (w := wr.alloc (.cells #[.int .u8 (m % 256)] 5)) (xs := [m % 256]) hwh.mem 1
        have HBn := hide (HB.out.trans (((Below.refl wr.heap.size wr).alloc (Nat.le_refl _) (.cells #[.int .u8 (m % 256)] 5)).mono HB.out.size))
        have HNx := hide (show ((i + 1 = 0 ∧ strOfNums [m % 256] ++ s = ByteArray.empty ∧ m / 256 = n) ∨ (i + 1 = 1 ∧ strOfNums [m % 256] ++ s = strOfNums [n % 256] ∧ m / 256 = n / 256) ∨ (i + 1 = 2 ∧ strOfNums [m % 256] ++ s = strOfNums [n / 256 % 256, n % 256] ∧ m / 256 = n / 256 / 256)) from by
          rcases HOr.out with ⟨rfl, rfl, rfl⟩ | ⟨rfl, rfl, rfl⟩ | ⟨rfl, rfl, rfl⟩
          · exact .inr (.inl ⟨rfl, by rw [← nums_nil, nums_app]; rfl, rfl⟩)
          · exact .inr (.inr ⟨rfl, by rw [nums_app]; rfl, rfl⟩)
          · omega)
        have hcc : ¬ 9223372036854775807 < (strOfNums [m % 256]).size + s.size := by
          rcases HOr.out with ⟨_, rfl, _⟩ | ⟨_, rfl, _⟩ | ⟨_, rfl, _⟩ <;> simp [ofNums_size]
        clear hor hwh
        simp only [List.length_cons, List.length_nil, Nat.reduceAdd] at hcv
        go_wp2_with fail
        go_roundw
        case rel => exact ⟨i + 1, _, m / 256, by omega, rfl, rfl, by go_num, HNx.out, HBn.out⟩
        case measure => (try simp [Go.RowKit.intOf]); omega
      · have hltI : ¬ (i : Int) < (1 : Int) := by omega
        obtain ⟨rfl, rfl⟩ := HFin.out i s m (by omega) hor hik
        clear hor
        go_wp2_with fail
        exact bodyPost_ret (v := .tuple #[.string (numS 1 n), .bool true]) (by simp [results, Tryz.results66, go_sem]) rfl ⟨rfl, HB.out⟩
  · clear hk2
    go_enter Tryz.func66, Tryz.ntmps66
    go_upto_region 5 with fail
    go_loopw [1, 6, 7] (fun x y z wr => ∃ (i : Nat) (s : ByteArray) (m : Int), i ≤ 2 ∧ x = .int .u64 m ∧ y = .string s ∧ z = .int .i64 (i : Int) ∧ ((i = 0 ∧ s = ByteArray.empty ∧ m = n) ∨ (i = 1 ∧ s = strOfNums [n % 256] ∧ m = n / 256) ∨ (i = 2 ∧ s = strOfNums [n / 256 % 256, n % 256] ∧ m = n / 256 / 256)) ∧ Below w.heap.size w wr) (fun _ _ z _ => 2 - (Go.RowKit.intOf z).toNat)
    case atStart => exact ⟨0, ByteArray.empty, n, Nat.zero_le _, rfl, rfl, rfl, .inl ⟨rfl, rfl, rfl⟩, Below.refl _ _⟩
    case round =>
      obtain ⟨i, s, m, hik, rfl, rfl, rfl, hor, hb⟩ := hrel
      have HB := hide hb
      have HOr := hide hor
      clear hb
      by_cases hlt : i < 2
      · have hltI : (i : Int) < (2 : Int) := by omega
        have hm0 : 0 ≤ m ∧ m < 65536 := by rcases hor with ⟨_, _, rfl⟩ | ⟨_, _, rfl⟩ | ⟨_, _, rfl⟩ <;> omega
        have hmw : IntKind.u8.wrap (m % 256) = m % 256 := by rw [IntKind.wrap_u8]; omega
        have hwh := Whole.new wr [.int .u8 (m % 256)] 5
        have hcv := conv_str (w := wr.alloc (.cells #[.int .u8 (m % 256)] 5)) (xs := [m % 256]) hwh.mem 1
        have HBn := hide (HB.out.trans (((Below.refl wr.heap.size wr).alloc (Nat.le_refl _) (.cells #[.int .u8 (m % 256)] 5)).mono HB.out.size))
        have HNx := hide (show ((i + 1 = 0 ∧ strOfNums [m % 256] ++ s = ByteArray.empty ∧ m / 256 = n) ∨ (i + 1 = 1 ∧ strOfNums [m % 256] ++ s = strOfNums [n % 256] ∧ m / 256 = n / 256) ∨ (i + 1 = 2 ∧ strOfNums [m % 256] ++ s = strOfNums [n / 256 % 256, n % 256] ∧ m / 256 = n / 256 / 256)) from by
          rcases HOr.out with ⟨rfl, rfl, rfl⟩ | ⟨rfl, rfl, rfl⟩ | ⟨rfl, rfl, rfl⟩
          · exact .inr (.inl ⟨rfl, by rw [← nums_nil, nums_app]; rfl, rfl⟩)
          · exact .inr (.inr ⟨rfl, by rw [nums_app]; rfl, rfl⟩)
          · omega)
        have hcc : ¬ 9223372036854775807 < (strOfNums [m % 256]).size + s.size := by
          rcases HOr.out with ⟨_, rfl, _⟩ | ⟨_, rfl, _⟩ | ⟨_, rfl, _⟩ <;> simp [ofNums_size]
        clear hor hwh
        simp only [List.length_cons, List.length_nil, Nat.reduceAdd] at hcv
        go_wp2_with fail
        go_roundw
        case rel => exact ⟨i + 1, _, m / 256, by omega, rfl, rfl, by go_num, HNx.out, HBn.out⟩
        case measure => (try simp [Go.RowKit.intOf]); omega
      · have hltI : ¬ (i : Int) < (2 : Int) := by omega
        obtain ⟨rfl, rfl⟩ := HFin.out i s m (by omega) hor hik
        clear hor
        go_wp2_with fail
        exact bodyPost_ret (v := .tuple #[.string (numS 2 n), .bool true]) (by simp [results, Tryz.results66, go_sem]) rfl ⟨rfl, HB.out⟩
/-- a name's bytes: how long it is, and it -/
theorem name_bytes (s : ByteArray) : numS 1 s.size ++ s = strOfNums (encN s) ∨ 256 ≤ s.size := by
  by_cases h : s.size < 256
  · refine .inl ?_
    unfold numS encN
    rw [be_one _ (by omega) (by omega)]
    conv => lhs; rw [← ofNums_nS s]
    rw [nums_app]
    simp [nS_len, ofNums_size]
  · exact .inr (by omega)
set_option maxHeartbeats 1000000 in
theorem rname_any (s : ByteArray) (hs : s.size < 256) (w : World) :
    Calls Tryz.prog 67 #[.string s] w fun e w' => e = .returned (.string (strOfNums (encN s))) ∧ Below w.heap.size w w' := by
  have HN := hide (num_any 1 (.inl rfl) (s.size : Int) (by omega) (by omega) w)
  have HE := hide ((name_bytes s).resolve_right (by omega))
  have hw : IntKind.u64.wrap (s.size : Int) = (s.size : Int) := by rw [IntKind.wrap_u64]; omega
  have hcc : ¬ 9223372036854775807 < (numS 1 (s.size : Int)).size + s.size := by
    unfold numS
    rw [ofNums_size, Pl.be_len]
    omega
  go_enter Tryz.func67, Tryz.ntmps67
  go_wp2_with fail
  refine HN.out.mono ?_
  rintro e w1 ⟨rfl, hb⟩
  have HB := hide hb
  clear hb
  go_wp2_with fail
  go_ret
  exact ⟨by rw [HE.out]; rfl, HB.out⟩
theorem encP_take (es : List Ent) (j : Nat) (h : j < es.length) : encP (es.take (j + 1)) = encP (es.take j) ++ (encN es[j].1 ++ encN es[j].2) := by
  rw [List.take_succ_eq_append_getElem h, encP_app]
  simp [encP, encE]
set_option maxHeartbeats 2000000 in
set_option maxRecDepth 20000 in
theorem rbytes_any (A : Option Addr) (c : Nat) (es : List Ent) (w : World) (hm : Mem w w.heap.size A (pv es)) (hb : Bk es) :
    Calls Tryz.prog 32 #[.slice A es.length c] w fun e w' => e = .returned (.string (strOfNums (encB es))) ∧ Below w.heap.size w w' := by
  have hl := hb.len
  have HM := hide hm
  have HBk := hide hb
  have HN := hide (num_any 2 (.inr rfl) (es.length : Int) (by omega) (by omega) w)
  have hw : IntKind.u64.wrap (es.length : Int) = (es.length : Int) := by rw [IntKind.wrap_u64]; omega
  clear hm hb
  go_enter Tryz.func32, Tryz.ntmps32
  go_wp2_with fail
  refine HN.out.mono ?_
  rintro e w1 ⟨rfl, hb1⟩
  have HB1 := hide hb1
  clear hb1
  go_upto_region 3 with fail
  go_loopw [3, 5] (fun x y wr => ∃ j : Nat, j ≤ es.length ∧ y = .int .i64 j ∧ x = .string (strOfNums (Pl.be 2 es.length ++ encP (es.take j))) ∧ Below w.heap.size w wr) (fun _ y _ => es.length - (Go.RowKit.intOf y).toNat)
  case atStart => exact ⟨0, Nat.zero_le _, rfl, by simp [numS, encP], HB1.out⟩
  case round =>
    obtain ⟨j, hj, rfl, rfl, hb⟩ := hrel
    have HB := hide hb
    clear hb
    by_cases hlt : j < es.length
    · obtain ⟨g, off, rfl, hg, hc⟩ := prs_at ((HM.out.below HB.out).mono HB.out.size) (by omega)
      obtain ⟨f0, f1⟩ := hc j hlt
      have hft := HBk.out.fit es[j] (List.getElem_mem hlt)
      have HT := hide (encP_take es j hlt)
      have HN1 := fun w => hide (rname_any es[j].1 (by have := hft.2.1; omega) w)
      have HN2 := fun w => hide (rname_any es[j].2 (by have := hft.2.2; omega) w)
      clear hc hft
      have hpl : (Pl.be 2 es.length ++ encP (es.take j)).length ≤ 100000 := by
        have := encP_len_le (es := es.take j) (fun e he => HBk.out.fit e (List.mem_of_mem_take he))
        rw [List.length_take] at this
        rw [List.length_append, Pl.be_len]
        omega
      have hl1 : (encN es[j].1).length ≤ 300 := by have h2 : es[j].1.size ≤ 40 := HBk.out.fit es[j] (List.getElem_mem hlt) |>.2.1; simp [encN, nS_len]; omega
      have hl2 : (encN es[j].2).length ≤ 300 := by have h2 : es[j].2.size ≤ 200 := HBk.out.fit es[j] (List.getElem_mem hlt) |>.2.2; simp [encN, nS_len]; omega
      generalize es[j] = ej at *
      obtain ⟨kj, vj⟩ := ej
      generalize hps : Pl.be 2 es.length ++ encP (es.take j) = ps at *
      have HPs := hide hps
      have hc1 : ¬ 9223372036854775807 < (strOfNums ps).size + (strOfNums (encN kj)).size := by rw [ofNums_size, ofNums_size]; simp only at hl1; omega
      have hc2 : ¬ 9223372036854775807 < (strOfNums ps).size + (strOfNums (encN kj)).size + (strOfNums (encN vj)).size := by rw [ofNums_size, ofNums_size, ofNums_size]; simp only at hl1 hl2; omega
      have HNx := hide (show strOfNums ps ++ strOfNums (encN kj) ++ strOfNums (encN vj) = strOfNums (Pl.be 2 es.length ++ encP (es.take (j + 1))) by rw [nums_app, nums_app, HT.out, ← HPs.out]; simp only [List.append_assoc])
      clear hps hl1 hl2 hpl
      go_wp2_with fail
      refine wp_region_held_drew (S := (fun w' => Below wr.heap.size wr w')) (by kernel_rfl) ((Below.refl _ _).drew) (fun hHeld => ?_)
      generalize wr.drew = wd at *
      refine wpAnyH_take (i := 0) (v := ?vaq1) rfl (by kernel_rfl) (by kernel_rfl) (by kernel_rfl) (fun _ _ _ h => h) (Or.inl ⟨by rfl, ?haq1⟩) (by assumption) ?raq1
      case haq1 => (intro wq hSw; go_simp; (try with_reducible rfl))
      try simp only [Act.put, List.getElem_toArray, List.getElem_cons_zero, List.setIfInBounds_toArray, List.set_cons_zero, List.set_cons_succ]
      refine wpAnyH_take (i := 1) (v := ?vaq2) rfl (by kernel_rfl) (by kernel_rfl) (by kernel_rfl) (fun _ _ _ h => h) (Or.inl ⟨by rfl, ?haq2⟩) (by assumption) ?raq2
      case haq2 => (intro wq hSw; go_simp; (try with_reducible rfl))
      try simp only [Act.put, List.getElem_toArray, List.getElem_cons_zero, List.getElem_cons_succ, List.setIfInBounds_toArray, List.set_cons_zero, List.set_cons_succ]
      refine wpAnyH_take (i := 2) (v := ?vaq3) rfl (by kernel_rfl) (by kernel_rfl) (by kernel_rfl) (fun _ _ _ h => h) (Or.inl ⟨by rfl, ?haq3⟩) (by assumption) ?raq3
      case haq3 => (intro wq hSw; go_simp; (try with_reducible rfl))
      try simp only [Act.put, List.getElem_toArray, List.getElem_cons_zero, List.getElem_cons_succ, List.setIfInBounds_toArray, List.set_cons_zero, List.set_cons_succ]
      refine wpAnyH_take (i := 3) (v := ?vaq4) rfl (by kernel_rfl) (by kernel_rfl) (by kernel_rfl) (fun _ _ _ h => h) (Or.inl ⟨by rfl, ?haq4⟩) (by assumption) ?raq4
      case haq4 => (intro wq hSw; go_simp; (try with_reducible rfl))
      try simp only [Act.put, List.getElem_toArray, List.getElem_cons_zero, List.getElem_cons_succ, List.setIfInBounds_toArray, List.set_cons_zero, List.set_cons_succ]
      refine wpAnyH_take (i := 4) (v := ?vaq5) rfl (by kernel_rfl) (by kernel_rfl) (by kernel_rfl) (fun _ _ _ h => h) (Or.inl ⟨by rfl, ?haq5⟩) (by assumption) ?raq5
      case haq5 => (intro wq hSw; go_simp; (try with_reducible rfl))
      try simp only [Act.put, List.getElem_toArray, List.getElem_cons_zero, List.getElem_cons_succ, List.setIfInBounds_toArray, List.set_cons_zero, List.set_cons_succ]
      refine wpAnyH_take (i := 5) (v := ?vaq6) rfl (by kernel_rfl) (by kernel_rfl) (by kernel_rfl) (fun _ _ _ h => h) (Or.inl ⟨by rfl, ?haq6⟩) (by assumption) ?raq6
      case haq6 => (intro wq hSw; have e0 := (hSw.cell (p := ⟨g, off + j * 2, none⟩) hg).trans f0; go_simp; (try with_reducible rfl))
      try simp only [Act.put, List.getElem_toArray, List.getElem_cons_zero, List.getElem_cons_succ, List.setIfInBounds_toArray, List.set_cons_zero, List.set_cons_succ]
      refine wpAnyH_take (i := 8) (v := ?vaq7) rfl (by kernel_rfl) (by kernel_rfl) (by kernel_rfl) (fun _ _ _ h => h) (Or.inl ⟨by rfl, ?haq7⟩) (by assumption) ?raq7
      case haq7 => (intro wq hSw; go_simp; (try with_reducible rfl))
      try simp only [Act.put, List.getElem_toArray, List.getElem_cons_zero, List.getElem_cons_succ, List.setIfInBounds_toArray, List.set_cons_zero, List.set_cons_succ]
      refine wpAnyH_take (i := 9) (v := ?vaq8) rfl (by kernel_rfl) (by kernel_rfl) (by kernel_rfl) (fun _ _ _ h => h) (Or.inl ⟨by rfl, ?haq8⟩) (by assumption) ?raq8
      case haq8 => (intro wq hSw; go_simp; (try with_reducible rfl))
      try simp only [Act.put, List.getElem_toArray, List.getElem_cons_zero, List.getElem_cons_succ, List.setIfInBounds_toArray, List.set_cons_zero, List.set_cons_succ]
      refine wpAnyH_take (i := 10) (v := ?vaq9) rfl (by kernel_rfl) (by kernel_rfl) (by kernel_rfl) (fun _ _ _ h => h) (Or.inl ⟨by rfl, ?haq9⟩) (by assumption) ?raq9
      case haq9 => (intro wq hSw; go_simp; (try with_reducible rfl))
      try simp only [Act.put, List.getElem_toArray, List.getElem_cons_zero, List.getElem_cons_succ, List.setIfInBounds_toArray, List.set_cons_zero, List.set_cons_succ]
      refine wpAnyH_take (i := 11) (v := ?vaq10) rfl (by kernel_rfl) (by kernel_rfl) (by kernel_rfl) (fun _ _ _ h => h) (Or.inl ⟨by rfl, ?haq10⟩) (by assumption) ?raq10
      case haq10 => (intro wq hSw; go_simp; (try with_reducible rfl))
      try simp only [Act.put, List.getElem_toArray, List.getElem_cons_zero, List.getElem_cons_succ, List.setIfInBounds_toArray, List.set_cons_zero, List.set_cons_succ]
      refine wpAnyH_take (i := 12) (v := ?vaq11) rfl (by kernel_rfl) (by kernel_rfl) (by kernel_rfl) (fun _ _ _ h => h) (Or.inl ⟨by rfl, ?haq11⟩) (by assumption) ?raq11
      case haq11 => (intro wq hSw; have e1 := (hSw.cell (p := ⟨g, off + j * 2 + 1, none⟩) hg).trans f1; go_simp; (try with_reducible rfl))
      try simp only [Act.put, List.getElem_toArray, List.getElem_cons_zero, List.getElem_cons_succ, List.setIfInBounds_toArray, List.set_cons_zero, List.set_cons_succ]
      refine wpAnyH_ready (rs := [6]) (by kernel_rfl) (by simp) ?_
      refine AllReadyH.cons (o := _) rfl (fun K hK => ?_) ?_
      · skip
        go_simp
        refine ((HN1 _).out).mono ?_
        rintro e ws1 ⟨rfl, hb⟩
        have HH1 := hide (hHeld.trans (hb.mono hHeld.size))
        clear hb
        refine hK.out _ _ (HH1.out) (fun hHeld => ?_)
        clear hK K 
        try simp only [Act.put, List.getElem_toArray, List.getElem_cons_zero, List.getElem_cons_succ, List.setIfInBounds_toArray, List.set_cons_zero, List.set_cons_succ]
        refine wpAnyH_take (i := 7) (v := ?vaq12) rfl (by kernel_rfl) (by kernel_rfl) (by kernel_rfl) (fun _ _ _ h => h) (Or.inl ⟨by rfl, ?haq12⟩) (by assumption) ?raq12
        case haq12 => (intro wq hSw; go_simp; (try with_reducible rfl))
        try simp only [Act.put, List.getElem_toArray, List.getElem_cons_zero, List.getElem_cons_succ, List.setIfInBounds_toArray, List.set_cons_zero, List.set_cons_succ]
        refine wpAnyH_ready (rs := [13]) (by kernel_rfl) (by simp) ?_
        refine AllReadyH.cons (o := _) rfl (fun K hK => ?_) ?_
        · skip
          go_simp
          refine ((HN2 _).out).mono ?_
          rintro e ws2 ⟨rfl, hb⟩
          have HH2 := hide (hHeld.trans (hb.mono hHeld.size))
          clear hb
          refine hK.out _ _ (HH2.out) (fun hHeld => ?_)
          clear hK K 
          try simp only [Act.put, List.getElem_toArray, List.getElem_cons_zero, List.getElem_cons_succ, List.setIfInBounds_toArray, List.set_cons_zero, List.set_cons_succ]
          refine wpAnyH_take (i := 14) (v := ?vaq13) rfl (by kernel_rfl) (by kernel_rfl) (by kernel_rfl) (fun _ _ _ h => h) (Or.inl ⟨by rfl, ?haq13⟩) (by assumption) ?raq13
          case haq13 => (intro wq hSw; go_simp; (try with_reducible rfl))
          try simp only [Act.put, List.getElem_toArray, List.getElem_cons_zero, List.getElem_cons_succ, List.setIfInBounds_toArray, List.set_cons_zero, List.set_cons_succ]
          refine wpAnyH_take (i := 15) (v := ?vaq14) rfl (by kernel_rfl) (by kernel_rfl) (by kernel_rfl) (fun _ _ _ h => h) (Or.inl ⟨by rfl, ?haq14⟩) (by assumption) ?raq14
          case haq14 => (intro wq hSw; go_simp; (try with_reducible rfl))
          try simp only [Act.put, List.getElem_toArray, List.getElem_cons_zero, List.getElem_cons_succ, List.setIfInBounds_toArray, List.set_cons_zero, List.set_cons_succ]
          refine wpAnyH_done (by kernel_rfl) ?_ _
          have HBz := hide (HB.out.trans (hHeld.mono HB.out.size))
          clear hHeld
          go_wp2_with fail
          go_roundw
          case rel => exact ⟨j + 1, by omega, by go_num, by rw [← HNx.out], HBz.out⟩
          case measure => (try simp [Go.RowKit.intOf]); omega
        exact AllReadyH.nil
      exact AllReadyH.nil
    · obtain rfl : j = es.length := by omega
      have HE := hide (show strOfNums (Pl.be 2 es.length ++ encP (es.take es.length)) = strOfNums (encB es) by rw [List.take_length]; rfl)
      rw [HE.out]
      go_wp2_with fail
      go_ret
      exact ⟨rfl, HB.out⟩
end Go.Proofs.YtokibbgahefkbaaGreatDoor.Fe
namespace Go.Proofs.YtokibbgahefkbaaGreatDoor.Fe
open Go.RowKit Go.Shelf
attribute [local go_sem] Oper.semAt_some

theorem hasPrefix_any (s p : ByteArray) (w : World) : Calls Tryz.prog 56 #[.string s, .string p] w fun e w' => e = .returned (.bool (preB p s)) ∧ w' = w :=
  Any.strings_HasPrefix Tryz.lays99 s p w
set_option maxHeartbeats 2000000 in
set_option maxRecDepth 20000 in
theorem begin_in (m l Bb Bs B c : Nat) (A : Option Addr) (es : List Ent) (s : ByteArray) (Ex : Nat → Prop) (J : List ByteArray → World → Prop) (W : World)
    (hbb : Whole W Bb 25 [.slice A es.length c]) (hbs : Whole W Bs 9 [.string s]) (hm : Mem W B A (pv es)) (h1 : Bb < B) (h2 : Bs < B) (hB : B ≤ W.heap.size) (hl : es.length ≤ 100000)
    (hEx : ∀ k, k < B → ¬ Ex k) (hJ : AbidesE (fun _ => False) J)
    (hY : ∀ pre x W1, J pre W1 → (pre ++ [x]) <+: keysW es s → YieldAt Fence.wide (m - 1) Tryz.prog l #[.string x] W1 (fun e W' => e = .returned (.bool true) ∧ J (pre ++ [x]) W' ∧ KeptX Ex W1 W')) (h0 : J [] W) :
    CallsIn Fence.wide m Tryz.prog 71 #[.func (.yield l) #[] #[], .pointer (some ⟨Bb, 0, none⟩), .pointer (some ⟨Bs, 0, none⟩)] W fun e W' => (∃ v, e = .returned v) ∧ J (keysW es s) W' := by
  have HY := hide hY
  have HJ := hide hJ
  have H0 := hide h0
  have HBb := hide hbb
  have HBs := hide hbs
  have HM := hide hm
  have HEx := hide hEx
  have c0 := hbb.cell 0
  simp only [List.getElem?_cons_zero] at c0
  clear hY hJ h0 hbb hbs hm hEx
  refine callsIn_of_wp Tryz.func71 rfl trivial ?_ rfl
  simp only [Tryz.ntmps71, List.size_toArray, List.length_cons, List.length_nil, Nat.reduceAdd, Nat.reduceSub, Array.replicate_succ, Array.replicate_zero, List.push_toArray, List.append_toArray, List.nil_append, List.cons_append]
  gi_wp2
  gi_loopw [9] (fun x wr => ∃ j : Nat, j ≤ es.length ∧ x = .int .i64 j ∧ J (keysW (es.take j) s) wr ∧ Below B W wr) (fun x _ => es.length - (Go.RowKit.intOf x).toNat)
  case atStart => exact ⟨0, Nat.zero_le _, rfl, H0.out, Below.refl _ _⟩
  case round =>
    obtain ⟨j, hj, rfl, hjj, hbw⟩ := hrel
    have Hj := hide hjj
    have HBw := hide hbw
    clear hjj hbw
    by_cases hlt : j < es.length
    · obtain ⟨g, off, rfl, hg, hc⟩ := prs_at (HM.out.below HBw.out) (by omega)
      obtain ⟨f0, f1⟩ := hc j hlt
      have s0 := (HBs.out.below HBw.out h2).cell 0
      simp only [List.getElem?_cons_zero] at s0
      have HTk := hide (keysW_take es s j hlt)
      have HPre := hide (keysW_pre es s (j + 1))
      have hwx := Whole.new wr [.string es[j].1, .string es[j].2] 86
      have hwb : Below wr.heap.size wr (wr.alloc (.cells [.string es[j].1, .string es[j].2].toArray 86)) := (Below.refl _ _).alloc (Nat.le_refl _) _
      have x0 := hwx.cell 0
      have s1 := (hwb.cell (p := ⟨Bs, 0, none⟩) (by have := HBw.out.size; show Bs < wr.heap.size; omega)).trans s0
      simp only [List.getElem?_cons_zero] at x0
      have HWb := hide hwb
      have HH := fun W => hide (hasPrefix_any es[j].1 s W)
      clear hc c0 hwx hwb
      generalize hej : es[j] = ej at *
      obtain ⟨kj, vj⟩ := ej
      have HEj := hide hej
      clear hej
      simp only at HTk HH
      generalize hpb : preB s kj = pb at *
      clear hpb
      gi_wp2
      refine ⟨trivial, fun h => (by cases h), callsIn_wide.2 ((HH _).out.mono ?_)⟩
      rintro e w' ⟨rfl, rfl⟩
      cases pb with
      | false =>
        have HN := hide (HJ.out _ _ _ Hj.out (KeptX.alloc _ wr (.cells #[.string kj, .string vj] 86)))
        have HBn := hide (HBw.out.trans ((HWb.out).mono (Nat.le_trans hB HBw.out.size)))
        have HTk' := hide (show keysW (es.take (j + 1)) s = keysW (es.take j) s by rw [HTk.out, if_neg (by decide)])
        gi_wp2
        refine ⟨fun f h => (by cases h), ?_⟩
        gi_wp2
        go_roundw
        case rel => exact ⟨j + 1, by omega, by go_num, by rw [HTk'.out]; exact HN.out, HBn.out⟩
        case measure => (try simp [Go.RowKit.intOf]); omega
      | true =>
        have HTk' := hide (show keysW (es.take (j + 1)) s = keysW (es.take j) s ++ [kj] by rw [HTk.out, if_pos rfl])
        have hpre : keysW (es.take j) s ++ [kj] <+: keysW es s := by
          have := HPre.out
          rw [HTk'.out] at this
          exact this
        obtain ⟨fn, tmps, assign, body, hy, hR⟩ := HY.out (keysW (es.take j) s) kj (wr.alloc (.cells #[.string kj, .string vj] 86)) (HJ.out _ _ _ Hj.out (KeptX.alloc _ wr _)) hpre
        have HR := hide hR
        have HBn := hide (HBw.out.trans ((HWb.out).mono (Nat.le_trans hB HBw.out.size)))
        clear hR hpre
        gi_wp2
        refine ⟨fun h => (by cases h), HR.out.mono ?_⟩
        rintro e W2 ⟨rfl, hJ2, hk2⟩
        have HJ2 := hide hJ2
        have HB2 := hide (HBn.out.trans (hk2.below (Nat.le_trans hB HBn.out.size) HEx.out))
        clear hJ2 hk2 hy
        gi_wp2
        go_roundw
        case rel => exact ⟨j + 1, by omega, by go_num, by rw [HTk'.out]; exact HJ2.out, HB2.out⟩
        case measure => (try simp [Go.RowKit.intOf]); omega
    · obtain rfl : j = es.length := by omega
      have hjx := Hj.out
      rw [List.take_length] at hjx
      have Hjx := hide hjx
      clear hjx
      gi_wp2
      go_end0
      exact ⟨⟨_, rfl⟩, Hjx.out⟩
/-- what is collected so far -/
structure ColK (w wr : World) (b0 base : Nat) (l : List ByteArray) : Prop where
  ex : ∃ v, Whole wr b0 43 [v] ∧ wr.ownsRow base 9 1 v l.length (strs l)
  bel : Below w.heap.size w wr
theorem owns_keptxK {w w' : World} {Ex : Nat → Prop} {base : Nat} {e : TypeId} {size : Nat} {v : Value} {n : Nat} {xs : List Value} (h : w.ownsRow base e size v n xs) (hk : KeptX Ex w w') (hn : ∀ k, Ex k → k < base) : w'.ownsRow base e size v n xs :=
  owns_block h fun g hg => hk.2 g (h.lt g hg).2 (fun e => by have := hn g e; have := (h.lt g hg).1; omega)
theorem ColK.kept {w wr w' : World} {b0 base : Nat} {l : List ByteArray} {Ex : Nat → Prop} (h : ColK w wr b0 base l) (hk : KeptX Ex wr w') (hn : ∀ k, Ex k → k < base) (hb : ¬ Ex b0) (hf : ∀ k, Ex k → w.heap.size ≤ k) : ColK w w' b0 base l := by
  obtain ⟨⟨v, h1, h2⟩, h3⟩ := h
  exact ⟨⟨v, h1.of_block (hk.2 _ h1.lt hb), owns_keptxK h2 hk hn⟩, h3.trans (hk.below h3.size fun k hk h => by have := hf k h; omega)⟩
set_option maxHeartbeats 2000000 in
set_option maxRecDepth 20000 in
theorem appendSeqS_any (Bb Bs c : Nat) (A : Option Addr) (es : List Ent) (s : ByteArray) (w : World) (hbb : Whole w Bb 25 [.slice A es.length c]) (hbs : Whole w Bs 9 [.string s]) (hm : Mem w w.heap.size A (pv es)) (hl : es.length ≤ 100000) :
    Calls Tryz.prog 70 #[.slice none 0 0, .func (.func 71) #[] #[.pointer (some ⟨Bb, 0, none⟩), .pointer (some ⟨Bs, 0, none⟩)]] w (KeysQ (keysW es s) w) := by
  obtain ⟨i0, hi, hz0, hz1, hz2⟩ := info_parts infoStr
  have HBb := hide hbb
  have HBs := hide hbs
  have HM := hide hm
  have hl1 := hbb.lt
  have hl2 := hbs.lt
  clear hbb hbs hm
  have eg : ∀ args W, (callFunc 71 args).run Tryz.prog W = .ok (.enter 71 args) W := enters_of Tryz.func71 (by kernel_rfl) rfl
  refine callsIn_wide.1 (callsIn_of_wp_marks (n := 5) Tryz.func70 rfl trivial ?_ rfl)
  refine wpIn_wide.2 ?_
  simp only [Tryz.ntmps70, List.size_toArray, List.length_cons, List.length_nil, Nat.reduceAdd, Nat.reduceSub, Array.replicate_succ, Array.replicate_zero, List.push_toArray, List.append_toArray, List.nil_append, List.cons_append]
  have hw0 := Whole.new w [.slice none 0 0] 43
  have hb0 : Below w.heap.size w (w.alloc (.cells #[.slice none 0 0] 43)) := (Below.refl _ _).alloc (Nat.le_refl _) _
  have hsz0 : (w.alloc (.cells #[.slice none 0 0] 43)).heap.size = w.heap.size + 1 := by simp
  change Whole (w.alloc (.cells #[.slice none 0 0] 43)) _ _ _ at hw0
  have HSz := hide hsz0
  have HW0 := hide hw0
  have HB0 := hide hb0
  clear hw0 hb0 hsz0
  go_wp2
  generalize w.alloc (.cells #[.slice none 0 0] 43) = wp at *
  refine (wpIn_wide (n := 5)).1 (range_all (n := 5) rfl eg (fun x : ByteArray => #[.string x]) (fun _ => rfl) (keysW es s) (fun k => k = w.heap.size ∨ w.heap.size + 3 ≤ k) (fun _ => False) ?hEx ?hSt ?hseq
    (fun pre W => ColK w W w.heap.size (w.heap.size + 3) pre) ?hI ?h0
    (fun x a' W => ∃ (v3 v6 v8 v9 v10 v11 v12 : Value), a' = { tmps := #[.slice none 0 0, .func (.func 71) #[] #[.pointer (some ⟨Bb, 0, none⟩), .pointer (some ⟨Bs, 0, none⟩)], .pointer (some ⟨w.heap.size, 0, none⟩), v3, .slice none 0 0, .string x, v6, .string x, v8, v9, v10, v11, v12], defers := [] })
    ?hAx ?hassign ?hbody ?hdone)
  case hEx => intro k hk; have := HSz.out; omega
  case hSt => exact fun k h => h.elim
  case hseq =>
    intro J W hbW hzW hJ hY hj0
    have hz := HSz.out
    refine begin_in (5 - 1) _ Bb Bs w.heap.size c A es s _ J W ((HBb.out.below HB0.out hl1).below hbW (by omega)) ((HBs.out.below HB0.out hl2).below hbW (by omega)) ((HM.out.below HB0.out).keep fun b o hb => hbW.cell (p := ⟨b, o, none⟩) (by show b < _; omega)) hl1 hl2 (by omega) hl ?_ hJ hY hj0
    intro k hk h
    omega
  case hI =>
    intro pre W W' hr hk
    have hz := HSz.out
    exact hr.kept hk (fun k hk => by have h : k = wp.heap.size ∨ k = wp.heap.size + 1 := hk.resolve_left id; omega) (fun hk => by have h : w.heap.size = wp.heap.size ∨ w.heap.size = wp.heap.size + 1 := hk.resolve_left id; omega) (fun k hk => by have h : k = wp.heap.size ∨ k = wp.heap.size + 1 := hk.resolve_left id; omega)
  case h0 => exact ⟨⟨_, HW0.out, World.ownsRow_nil _ _ _ _⟩, HB0.out⟩
  case hAx => exact fun x a' W W' h _ => h
  case hassign =>
    intro pre x W K hi hz hK
    gi_wp2
    exact hK _ _ (KeptX.refl _ _) ⟨_, _, _, _, _, _, _, rfl⟩
  case hbody =>
    rintro pre x a' W hz hi ⟨v3, v6, v8, v9, v10, v11, v12, rfl⟩ hpre
    obtain ⟨⟨v, hv, hown⟩, hkp⟩ := hi
    obtain ⟨A1, c1, rfl⟩ := owns_slice hown
    have hsz' := HSz.out
    have hlen : pre.length + 1 ≤ 100001 := by
      have h1 := hpre.length_le
      have h2 := keysW_len es s
      rw [List.length_append, List.length_singleton] at h1
      omega
    have HO := hide hown
    have HV := hide hv
    have HKp := hide hkp
    have c0 := hv.cell 0
    simp only [List.getElem?_cons_zero] at c0
    have hb2 : Below W.heap.size W (W.alloc (.cells #[.string x] 9)) := (Below.refl _ _).alloc (Nat.le_refl _) _
    have HB2 := hide hb2
    clear hown hv hkp hpre hb2
    have hne0 : ∀ g, (Value.slice A1 pre.length c1).ownBlock = some g → w.heap.size ≠ g := fun g hg => by have := (HO.out.lt g hg).1; omega
    gi_wp2_with (gi_at_builtin; refine wpListIn_append_own _ rfl _ _ 43 rfl (w.heap.size + 3) 9 i0 (.string ByteArray.empty) 1 16 Tryz.underlying43 hi hz0 hz1 hz2 rfl (by decide) _ _ _ rfl (HO.out.alloc _) ⟨W.heap.size, 0, none⟩ 1 1 [.string x] rfl rfl ?c1 ?c2 ?c3 ?c4 ?c5 ?_)
    case c1 => exact fun j u hu => new_cells W _ _ j u hu
    case c2 => exact strs_one [x]
    case c3 => unfold maxLen; omega
    case c4 => omega
    case c5 => simp; omega
    intro v2 w2 hown2 hg2 _
    obtain ⟨g2, cap2, rfl⟩ := ownsRow_succ hown2
    have hv2 : Whole w2 w.heap.size 43 [.slice A1 pre.length c1] := (HV.out.below HB2.out HV.out.lt).of_block (hg2.block _ (Nat.lt_of_lt_of_le HV.out.lt HB2.out.size) (fun e => hne0 _ e.symm rfl))
    have HV2 := hide hv2
    have HO2 := hide hown2
    have HG2 := hide hg2
    clear c0 hv2 hown2 hg2
    have c0 := HV2.out.cell 0
    have f0 := HV2.out.frozen 0
    simp only [List.getElem?_cons_zero] at c0
    gi_wp2
    have hkx : KeptX (fun k => k = w.heap.size ∨ w.heap.size + 3 ≤ k) W w2 := ((KeptX.of_below HB2.out).trans ⟨(Below.refl 0 _).grown HG2.out (Nat.zero_le _) (fun _ _ => Nat.zero_le _), fun k hk hn => HG2.out.block k hk (fun e => hn (.inr (HO.out.lt k e.symm).1))⟩)
    have hkf := hkx.trans (KeptX.setCell (fun k => k = w.heap.size ∨ w.heap.size + 3 ≤ k) w2 ⟨w.heap.size, 0, none⟩ (.slice (some ⟨g2, 0, none⟩) (pre.length + 1) cap2) (.inl rfl))
    refine ⟨hkf, ⟨⟨_, HV2.out.set_ 0 _, ?_⟩, HKp.out.trans (hkf.below HKp.out.size fun k hk h => by omega)⟩⟩
    rw [strs_app, List.length_append, List.length_singleton]
    exact owns_block HO2.out fun g hg => Below.heap_setCell _ _ _ _ (fun e => by have := (HO2.out.lt g hg).1; simp only at e; omega)
  case hdone =>
    intro W hz hi hD
    obtain ⟨⟨v, hv, hown⟩, hkp⟩ := hi
    obtain ⟨A1, c1, rfl⟩ := owns_slice hown
    have hsz' := HSz.out
    have HO := hide hown
    have HKp := hide hkp
    have c0 := hv.cell 0
    simp only [List.getElem?_cons_zero] at c0
    have HDf := hide hD
    clear hown hkp hv hD
    try dsimp only
    simp only [Exit.inBlock, Exit.then]
    go_wp2
    refine leave_marks [wp.heap.size] W (B := wp.heap.size) ⟨by simp, by simp, fun D hD => by rw [List.mem_singleton] at hD; subst hD; exact HDf.out⟩ (by omega) fun w' hb' hb2 => ⟨_, results_tmp rfl _ _ _, ?_⟩
    refine ⟨_, _, rfl, owns_base (owns_block HO.out fun g hg => hb2 g (by rw [List.mem_singleton]; have := (HO.out.lt g hg).1; omega)) (fun g hg => by have := (HO.out.lt g hg).1; omega), ?_⟩
    exact HKp.out.trans (hb'.mono (by omega))
set_option maxHeartbeats 1000000 in
theorem collectS_any (Bb Bs c : Nat) (A : Option Addr) (es : List Ent) (s : ByteArray) (w : World) (hbb : Whole w Bb 25 [.slice A es.length c]) (hbs : Whole w Bs 9 [.string s]) (hm : Mem w w.heap.size A (pv es)) (hl : es.length ≤ 100000) :
    Calls Tryz.prog 36 #[.func (.func 71) #[] #[.pointer (some ⟨Bb, 0, none⟩), .pointer (some ⟨Bs, 0, none⟩)]] w (KeysQ (keysW es s) w) := by
  have HA := hide (appendSeqS_any Bb Bs c A es s w hbb hbs hm hl)
  clear hbb hbs hm
  go_enter Tryz.func36, Tryz.ntmps36
  go_wp2_with fail
  refine HA.out.mono ?_
  rintro e w1 hr
  have HR := hide hr
  obtain ⟨A1, c1, rfl, _, _⟩ := hr
  go_wp2_with fail
  go_ret
  exact HR.out
/-- the boxes of an iterator -/
def BegQ (A : Option Addr) (n c : Nat) (s : ByteArray) (w : World) (e : Ending) (w' : World) : Prop := ∃ Bb Bs, e = .returned (.func (.func 71) #[] #[.pointer (some ⟨Bb, 0, none⟩), .pointer (some ⟨Bs, 0, none⟩)]) ∧ Whole w' Bb 25 [.slice A n c] ∧ Whole w' Bs 9 [.string s] ∧ Below w.heap.size w w'
set_option maxHeartbeats 1000000 in
theorem begin_any (A : Option Addr) (n c : Nat) (s : ByteArray) (w : World) : Calls Tryz.prog 37 #[bkV A n c, .string s] w (BegQ A n c s w) := by
  have h1 := Whole.new w [Value.slice A n c] 25
  have b1 : Below w.heap.size w (w.alloc (.cells #[Value.slice A n c] 25)) := (Below.refl _ _).alloc (Nat.le_refl _) _
  have h2 := Whole.new (w.alloc (.cells #[Value.slice A n c] 25)) [.string s] 9
  have b2 : Below (w.heap.size + 1) (w.alloc (.cells #[Value.slice A n c] 25)) ((w.alloc (.cells #[Value.slice A n c] 25)).alloc (.cells #[.string s] 9)) := (Below.refl _ _).alloc (by simp) _
  have hz : (w.alloc (.cells #[Value.slice A n c] 25)).heap.size = w.heap.size + 1 := by simp
  rw [hz] at h2
  have HR := hide (show BegQ A n c s w (.returned (.func (.func 71) #[] #[.pointer (some ⟨w.heap.size, 0, none⟩), .pointer (some ⟨w.heap.size + 1, 0, none⟩)])) ((w.alloc (.cells #[Value.slice A n c] 25)).alloc (.cells #[.string s] 9)) from
    ⟨_, _, rfl, h1.below b2 (by omega), h2, b1.trans (b2.mono (by omega))⟩)
  clear h1 b1 h2 b2 hz
  unfold bkV
  go_enter Tryz.func37, Tryz.ntmps37
  go_wp2_with fail
  go_ret
  exact HR.out
set_option maxHeartbeats 1000000 in
theorem keys_any (A : Option Addr) (c : Nat) (es : List Ent) (s : ByteArray) (w : World) (hm : Mem w w.heap.size A (pv es)) (hl : es.length ≤ 100000) :
    Calls Tryz.prog 14 #[bkV A es.length c, .string s] w (KeysQ (keysW es s) w) := by
  have hb1 : Below w.heap.size w (w.alloc (.cells #[Value.slice A es.length c] 25)) := (Below.refl _ _).alloc (Nat.le_refl _) _
  have c0 := (Whole.new w [Value.slice A es.length c] 25).cell 0
  simp only [List.getElem?_cons_zero] at c0
  have HM := hide hm
  have HB := hide hb1
  have HG := hide (begin_any A es.length c s (w.alloc (.cells #[Value.slice A es.length c] 25)))
  clear hm hb1
  unfold bkV at *
  go_enter Tryz.func14, Tryz.ntmps14
  go_wp2_with fail
  refine HG.out.mono ?_
  rintro e w1 ⟨Bb, Bs, rfl, h1, h2, hb⟩
  have HB1 := hide (HB.out.trans (hb.mono HB.out.size))
  have HC := hide (collectS_any Bb Bs c A es s w1 h1 h2 ((HM.out.below HB1.out).mono HB1.out.size) hl)
  clear h1 h2 hb
  go_wp2_with fail
  refine HC.out.mono ?_
  rintro e w2 ⟨A2, c2, rfl, ho, hb⟩
  have HR := hide (show KeysQ (keysW es s) w (.returned (.slice A2 (keysW es s).length c2)) w2 from ⟨A2, c2, rfl, owns_base ho (fun g hg => by have := (ho.lt g hg).1; have := HB1.out.size; omega), HB1.out.trans (hb.mono HB1.out.size)⟩)
  clear ho hb
  go_wp2_with fail
  go_ret
  exact HR.out
end Go.Proofs.YtokibbgahefkbaaGreatDoor.Fe
namespace Go.Proofs.YtokibbgahefkbaaGreatDoor.Fe
open Go.RowKit Go.Shelf

/-- a packer of the call's own -/
structure PkS (w wr : World) (bp : Nat) (xs : List Int) : Prop where
  ex : ∃ v, Pk wr bp v xs ∧ ∀ k, pkF bp v k → w.heap.size ≤ k
  bel : Below w.heap.size w wr
theorem PkS.put {w wr w' : World} {bp : Nat} {v : Value} {zs : List Int} {e : Ending} (hb : Below w.heap.size w wr) (hv : ∀ k, pkF bp v k → w.heap.size ≤ k) (h : PutRes bp v zs wr e w') : e = .returned (.pointer (some ⟨bp, 0, none⟩)) ∧ PkS w w' bp zs := by
  obtain ⟨v', h1, h2, h3, h4⟩ := h
  exact ⟨h1, ⟨v', h2, fun k hk => (h4 k hk).elim (hv k) (fun h => Nat.le_trans hb.size h)⟩, hb.trans (h3.below hb.size hv)⟩
theorem PkS.below {w wr w' : World} {bp : Nat} {xs : List Int} (h : PkS w wr bp xs) (hb : Below wr.heap.size wr w') : PkS w w' bp xs := by
  obtain ⟨⟨v, h1, h2⟩, h3⟩ := h
  exact ⟨⟨v, h1.below hb, h2⟩, h3.trans (hb.mono h3.size)⟩
theorem bs_nS (s : ByteArray) : bs s = nS s := rfl
theorem PkS.lt {w wr : World} {bp : Nat} {xs : List Int} (h : PkS w wr bp xs) : w.heap.size ≤ bp ∧ bp < wr.heap.size := by
  obtain ⟨⟨v, h1, h2⟩, h3⟩ := h
  exact ⟨h2 bp (.inl rfl), h1.lt (.inl rfl)⟩
/-- a box of another type is none of a packer's blocks -/
theorem own_far {w : World} {bp b : Nat} {v : Value} {xs : List Int} {k u : ByteArray} (h : Pk w bp v xs) (hx : Whole w b 86 [.string k, .string u]) : ¬ pkF bp v b := by
  rintro (rfl | h2)
  · have h3 : w.heap[b]? = some (.cells #[v, .int .i64 0] 139 (0, 0)) := h.box
    have h4 : w.heap[b]? = some (.cells #[.string k, .string u] 86 (0, 0)) := hx
    rw [h3] at h4
    injection h4 with h4
    injection h4 with _ h4
    exact absurd h4 (by decide)
  · exact own_ne h.own hx (by decide) h2
theorem encE_take (es : List Ent) (j : Nat) (h : j < es.length) : encP (es.take (j + 1)) = encP (es.take j) ++ (encN es[j].1 ++ encN es[j].2) := by
  rw [List.take_succ_eq_append_getElem h, encP_app]
  simp [encP, encE]
theorem bk_len {es : List Ent} (h : Bk es) (j : Nat) : (Pl.be 2 es.length ++ encP (es.take j)).length ≤ 8000 := by
  have h1 := encP_len_le (es := es.take j) (fun e he => h.fit e (List.mem_of_mem_take he))
  have h2 := h.len
  rw [List.length_take] at h1
  rw [List.length_append, Pl.be_len]
  omega
set_option maxHeartbeats 4000000 in
set_option maxRecDepth 20000 in
theorem bytesB_any (A : Option Addr) (c : Nat) (es : List Ent) (w : World) (hm : Mem w w.heap.size A (pv es)) (hb : Bk es) :
    Calls Tryz.prog 18 #[bkV A es.length c] w fun e w' => e = .returned (.string (strOfNums (encB es))) ∧ Below w.heap.size w w' := by
  have hl := hb.len
  have HM := hide hm
  have HBk := hide hb
  have hw := Whole.new w [Value.slice A es.length c] 25
  have hb1 : Below w.heap.size w (w.alloc (.cells #[Value.slice A es.length c] 25)) := (Below.refl _ _).alloc (Nat.le_refl _) _
  have hz1 : (w.alloc (.cells #[Value.slice A es.length c] 25)).heap.size = w.heap.size + 1 := by simp
  have hwr : IntKind.u64.wrap (es.length : Int) = (es.length : Int) := by rw [IntKind.wrap_u64]; omega
  change Whole (w.alloc (.cells #[Value.slice A es.length c] 25)) _ _ _ at hw
  have HW := hide hw
  have HB1 := hide hb1
  have HZ1 := hide hz1
  clear hm hb hw hb1 hz1
  unfold bkV
  go_enter Tryz.func18, Tryz.ntmps18
  go_upto_region 1 with fail
  generalize w.alloc (.cells #[Value.slice A es.length c] 25) = w1 at *
  have hz1 := HZ1.out
  have c0 : w1.cell? ⟨w.heap.size, 0, none⟩ = some (.slice A es.length c) := HW.out.cell 0
  refine wp_region_held_drew (S := (fun w' => Below w1.heap.size w1 w')) (by kernel_rfl) ((Below.refl _ _).drew) (fun hHeld => ?_)
  generalize w1.drew = wd at *
  refine wpAnyH_take (i := 1) (v := ?vaq1) rfl (by kernel_rfl) (by kernel_rfl) (by kernel_rfl) (fun _ _ _ h => h) (Or.inl ⟨by rfl, ?haq1⟩) (by assumption) ?raq1
  case haq1 => (intro wq hSw; go_simp; (try with_reducible rfl))
  try simp only [Act.put, List.getElem_toArray, List.getElem_cons_zero, List.getElem_cons_succ, List.setIfInBounds_toArray, List.set_cons_zero, List.set_cons_succ]
  refine wpAnyH_take (i := 2) (v := ?vaq2) rfl (by kernel_rfl) (by kernel_rfl) (by kernel_rfl) (fun _ _ _ h => h) (Or.inl ⟨by rfl, ?haq2⟩) (by assumption) ?raq2
  case haq2 => (intro wq hSw; have e0 := (hSw.cell (p := ⟨w.heap.size, 0, none⟩) (by show w.heap.size < w1.heap.size; omega)).trans c0; go_simp; (try with_reducible rfl))
  try simp only [Act.put, List.getElem_toArray, List.getElem_cons_zero, List.getElem_cons_succ, List.setIfInBounds_toArray, List.set_cons_zero, List.set_cons_succ]
  refine wpAnyH_take (i := 3) (v := ?vaq3) rfl (by kernel_rfl) (by kernel_rfl) (by kernel_rfl) (fun _ _ _ h => h) (Or.inl ⟨by rfl, ?haq3⟩) (by assumption) ?raq3
  case haq3 => (intro wq hSw; go_simp; (try with_reducible rfl))
  try simp only [Act.put, List.getElem_toArray, List.getElem_cons_zero, List.getElem_cons_succ, List.setIfInBounds_toArray, List.set_cons_zero, List.set_cons_succ]
  refine wpAnyH_take (i := 4) (v := ?vaq4) rfl (by kernel_rfl) (by kernel_rfl) (by kernel_rfl) (fun _ _ _ h => h) (Or.inl ⟨by rfl, ?haq4⟩) (by assumption) ?raq4
  case haq4 => (intro wq hSw; go_simp; (try with_reducible rfl))
  try simp only [Act.put, List.getElem_toArray, List.getElem_cons_zero, List.getElem_cons_succ, List.setIfInBounds_toArray, List.set_cons_zero, List.set_cons_succ]
  refine wpAnyH_ready (rs := [0]) (by kernel_rfl) (by simp) ?_
  refine AllReadyH.cons (o := _) rfl (fun K hK => ?_) ?_
  · skip
    go_simp
    refine (new_any _).mono ?_
    rintro e ws ⟨rfl, rfl⟩
    have HP1 := hide (show PkS w1 (wd.alloc (.cells #[.slice none 0 0, .int .i64 0] 139)) wd.heap.size [] from ⟨⟨_, Pk.new wd, fun k hk => hk.elim (fun h => by rw [h]; exact hHeld.size) (fun h => by cases h)⟩, hHeld.alloc hHeld.size _⟩)
    have HH1 := hide (HP1.out.bel)
    generalize wd.alloc (.cells #[.slice none 0 0, .int .i64 0] 139) = w2 at *
    generalize wd.heap.size = bp at *
    refine hK.out _ _ (HH1.out) (fun hHeld => ?_)
    clear hK K 
    try simp only [Act.put, List.getElem_toArray, List.getElem_cons_zero, List.getElem_cons_succ, List.setIfInBounds_toArray, List.set_cons_zero, List.set_cons_succ]
    refine wpAnyH_ready (rs := [5]) (by kernel_rfl) (by simp) ?_
    refine AllReadyH.cons (o := _) rfl (fun K hK => ?_) ?_
    · skip
      go_simp
      obtain ⟨v2, hpk2, hv2⟩ := HP1.out.ex
      refine (put_go bp v2 [] 2 (es.length : Int) w2 hpk2 (by decide) (.inr (.inl rfl)) (by omega) (by omega)).mono ?_
      rintro e w3 hr
      obtain ⟨rfl, hp⟩ := PkS.put HP1.out.bel hv2 hr
      have HP2 := hide hp
      clear hr hp hpk2 hv2
      refine hK.out _ _ (HP2.out.bel) (fun hHeld => ?_)
      clear hK K 
      try simp only [Act.put, List.getElem_toArray, List.getElem_cons_zero, List.getElem_cons_succ, List.setIfInBounds_toArray, List.set_cons_zero, List.set_cons_succ]
      refine wpAnyH_take (i := 6) (v := ?vaq5) rfl (by kernel_rfl) (by kernel_rfl) (by kernel_rfl) (fun _ _ _ h => h) (Or.inl ⟨by rfl, ?haq5⟩) (by assumption) ?raq5
      case haq5 => (intro wq hSw; go_simp; (try with_reducible rfl))
      try simp only [Act.put, List.getElem_toArray, List.getElem_cons_zero, List.getElem_cons_succ, List.setIfInBounds_toArray, List.set_cons_zero, List.set_cons_succ]
      refine wpAnyH_done (by kernel_rfl) ?_ _
      clear HP1 HH1 hHeld
      have c1 : w3.cell? ⟨w.heap.size, 0, none⟩ = some (.slice A es.length c) := (HP2.out.bel.cell (p := ⟨w.heap.size, 0, none⟩) (by show w.heap.size < w1.heap.size; omega)).trans c0
      clear c0
      go_upto_region 3 with fail
      go_loopw [17] (fun x wr => ∃ j : Nat, j ≤ es.length ∧ x = .int .i64 j ∧ PkS w1 wr bp (Pl.be 2 es.length ++ encP (es.take j))) (fun x _ => es.length - (Go.RowKit.intOf x).toNat)
      case atStart => exact ⟨0, Nat.zero_le _, rfl, by simpa [encP] using HP2.out⟩
      case round =>
        obtain ⟨j, hj, rfl, hps⟩ := hrel
        have HPs := hide hps
        clear hps HP2 c1
        by_cases hlt : j < es.length
        · obtain ⟨g, off, rfl, hg, hc⟩ := prs_at (HM.out.below (HB1.out.trans (HPs.out.bel.mono HB1.out.size))) (by omega)
          obtain ⟨f0, f1⟩ := hc j hlt
          have hft := HBk.out.fit es[j] (List.getElem_mem hlt)
          have HT := hide (encE_take es j hlt)
          have HLn := hide (bk_len HBk.out j)
          obtain ⟨hk0, hk1, hk2⟩ := hft
          generalize es[j] = ej at *
          obtain ⟨kj, vj⟩ := ej
          simp only at hk0 hk1 hk2
          generalize hps : Pl.be 2 es.length ++ encP (es.take j) = ps at *
          have HPe := hide hps
          clear hps hc
          have hwx := Whole.new wr [.string kj, .string vj] 86
          have HX := hide hwx
          have HPx := hide (HPs.out.below ((Below.refl wr.heap.size wr).alloc (Nat.le_refl _) (.cells #[.string kj, .string vj] 86)))
          change Whole (wr.alloc (.cells #[.string kj, .string vj] 86)) _ _ _ at hwx
          clear hwx
          go_wp2_with fail
          generalize wr.alloc (.cells #[.string kj, .string vj] 86) = wx at *
          refine wp_region_held_drew (S := (fun w' => Whole w' wr.heap.size 86 [.string kj, .string vj])) (by kernel_rfl) (HX.out) (fun hHeld => ?_)
          have HFar0 := hide (show ∀ v, Pk wx.drew bp v ps → ¬ pkF bp v wr.heap.size from fun v h1 h2 => own_far h1 HX.out h2)
          have HPx := hide (show PkS w1 wx.drew bp ps from HPx.out.below (Below.refl _ _).drew)
          generalize wx.drew = wd at *
          refine wpAnyH_take (i := 0) (v := ?vbq1) rfl (by kernel_rfl) (by kernel_rfl) (by kernel_rfl) (fun _ _ _ h => h) (Or.inl ⟨by rfl, ?hbq1⟩) (by assumption) ?rbq1
          case hbq1 => (intro wq hSw; go_simp; (try with_reducible rfl))
          try simp only [Act.put, List.getElem_toArray, List.getElem_cons_zero, List.setIfInBounds_toArray, List.set_cons_zero, List.set_cons_succ]
          refine wpAnyH_take (i := 1) (v := ?vbq2) rfl (by kernel_rfl) (by kernel_rfl) (by kernel_rfl) (fun _ _ _ h => h) (Or.inl ⟨by rfl, ?hbq2⟩) (by assumption) ?rbq2
          case hbq2 => (intro wq hSw; go_simp; (try with_reducible rfl))
          try simp only [Act.put, List.getElem_toArray, List.getElem_cons_zero, List.getElem_cons_succ, List.setIfInBounds_toArray, List.set_cons_zero, List.set_cons_succ]
          refine wpAnyH_take (i := 2) (v := ?vbq3) rfl (by kernel_rfl) (by kernel_rfl) (by kernel_rfl) (fun _ _ _ h => h) (Or.inl ⟨by rfl, ?hbq3⟩) (by assumption) ?rbq3
          case hbq3 => (intro wq hSw; have e0 := hSw.cell 0; simp only [List.getElem?_cons_zero] at e0; go_simp; (try with_reducible rfl))
          try simp only [Act.put, List.getElem_toArray, List.getElem_cons_zero, List.getElem_cons_succ, List.setIfInBounds_toArray, List.set_cons_zero, List.set_cons_succ]
          refine wpAnyH_take (i := 4) (v := ?vbq4) rfl (by kernel_rfl) (by kernel_rfl) (by kernel_rfl) (fun _ _ _ h => h) (Or.inl ⟨by rfl, ?hbq4⟩) (by assumption) ?rbq4
          case hbq4 => (intro wq hSw; go_simp; (try with_reducible rfl))
          try simp only [Act.put, List.getElem_toArray, List.getElem_cons_zero, List.getElem_cons_succ, List.setIfInBounds_toArray, List.set_cons_zero, List.set_cons_succ]
          refine wpAnyH_take (i := 5) (v := ?vbq5) rfl (by kernel_rfl) (by kernel_rfl) (by kernel_rfl) (fun _ _ _ h => h) (Or.inl ⟨by rfl, ?hbq5⟩) (by assumption) ?rbq5
          case hbq5 => (intro wq hSw; have e1 := hSw.cell 1; simp only [List.getElem?_cons_zero, List.getElem?_cons_succ] at e1; go_simp; (try with_reducible rfl))
          try simp only [Act.put, List.getElem_toArray, List.getElem_cons_zero, List.getElem_cons_succ, List.setIfInBounds_toArray, List.set_cons_zero, List.set_cons_succ]
          refine wpAnyH_ready (rs := [3]) (by kernel_rfl) (by simp) ?_
          refine AllReadyH.cons (o := _) rfl (fun K hK => ?_) ?_
          · skip
            go_simp
            obtain ⟨v1, hpk1, hv1⟩ := HPx.out.ex
            refine (name_any bp v1 _ kj wd hpk1 (by have := HLn.out; omega) (by omega)).mono ?_
            rintro e wn1 hr
            obtain ⟨rfl, hp⟩ := PkS.put HPx.out.bel hv1 hr
            obtain ⟨_, _, _, hkp, _⟩ := hr
            have hXn := hHeld.kp hkp (fun h => HFar0.out _ hpk1 h)
            have HFar1 := hide (show ∀ v, Pk wn1 bp v (ps ++ (kj.size : Int) :: bs kj) → ¬ pkF bp v wr.heap.size from fun v h1 h2 => own_far h1 hXn h2)
            have HPn1 := hide hp
            clear hp hkp hpk1 hv1
            refine hK.out _ _ (hXn) (fun hHeld => ?_)
            clear hK K hXn
            try simp only [Act.put, List.getElem_toArray, List.getElem_cons_zero, List.getElem_cons_succ, List.setIfInBounds_toArray, List.set_cons_zero, List.set_cons_succ]
            refine wpAnyH_ready (rs := [6]) (by kernel_rfl) (by simp) ?_
            refine AllReadyH.cons (o := _) rfl (fun K hK => ?_) ?_
            · skip
              go_simp
              obtain ⟨v2, hpk2, hv2⟩ := HPn1.out.ex
              refine (name_any bp v2 _ vj wn1 hpk2 (by have := HLn.out; rw [List.length_append, List.length_cons, bs_len]; omega) (by omega)).mono ?_
              rintro e wn2 hr
              obtain ⟨rfl, hp⟩ := PkS.put HPn1.out.bel hv2 hr
              obtain ⟨_, _, _, hkp, _⟩ := hr
              have hXn := hHeld.kp hkp (fun h => HFar1.out _ hpk2 h)
              have HFar2 := hide (show ∀ v, Pk wn2 bp v (ps ++ (kj.size : Int) :: bs kj ++ (vj.size : Int) :: bs vj) → ¬ pkF bp v wr.heap.size from fun v h1 h2 => own_far h1 hXn h2)
              have HPn2 := hide hp
              clear hp hkp hpk2 hv2
              refine hK.out _ _ (hXn) (fun hHeld => ?_)
              clear hK K hXn
              try simp only [Act.put, List.getElem_toArray, List.getElem_cons_zero, List.getElem_cons_succ, List.setIfInBounds_toArray, List.set_cons_zero, List.set_cons_succ]
              refine wpAnyH_done (by kernel_rfl) ?_ _
              have HNe := hide (show ps ++ (kj.size : Int) :: bs kj ++ (vj.size : Int) :: bs vj = Pl.be 2 es.length ++ encP (es.take (j + 1)) by rw [HT.out, ← HPe.out]; simp only [List.append_assoc, bs_nS]; rfl)
              have HPz := hide (show PkS w1 wn2 bp (Pl.be 2 es.length ++ encP (es.take (j + 1))) by rw [← HNe.out]; exact HPn2.out)
              clear HPn1 HPn2 HFar0 HFar1 HFar2 hHeld
              go_wp2_with fail
              go_roundw
              case rel => exact ⟨j + 1, by omega, by go_num, HPz.out⟩
              case measure => (try simp [Go.RowKit.intOf]); omega
            exact AllReadyH.nil
          exact AllReadyH.nil
        · obtain rfl : j = es.length := by omega
          have hps := HPs.out
          rw [List.take_length] at hps
          obtain ⟨v, hpk, hv⟩ := hps.ex
          have HBy := hide (bytes_any bp v (encB es) wr hpk (by have := bk_len HBk.out es.length; rw [List.take_length] at this; exact Nat.le_trans this (by decide)))
          have HBe := hide hps.bel
          clear hps hpk hv
          go_wp2_with fail
          refine HBy.out.mono ?_
          rintro e w4 ⟨v', rfl, ho, hb4⟩
          obtain ⟨A4, c4, rfl⟩ := owns_slice ho
          have hcv := conv_str (owns_mem ho) c4
          have HB4 := hide (HB1.out.trans ((HBe.out.trans (hb4.mono HBe.out.size)).mono HB1.out.size))
          clear ho hb4
          go_wp2_with fail
          go_ret
          exact ⟨rfl, HB4.out⟩
    exact AllReadyH.nil
  exact AllReadyH.nil
end Go.Proofs.YtokibbgahefkbaaGreatDoor.Fe
namespace Go.Proofs.YtokibbgahefkbaaGreatDoor.Fe
open Go.RowKit Go.Shelf

end Go.Proofs.YtokibbgahefkbaaGreatDoor.Fe
namespace Go.Proofs.YtokibbgahefkbaaGreatDoor.Fe
open Go.RowKit Go.Shelf

/-- Name, whatever bytes are left and whether it failed: a text, what is left, the error -/
def NameR (xs : List Int) (err : Int) (u : ByteArray) (r : List Int) (err' : Int) : Prop :=
  (err = 0 ∧ err' = 0 ∧ ∃ k, nameL xs = some (k, r) ∧ u = strOfNums k) ∨ ((err ≠ 0 ∨ nameL xs = none) ∧ u = ByteArray.empty ∧ err' ≠ 0)
/-- texts lie in none of the blocks that hold no text -/
theorem Mem.far {w w' : World} {B b : Nat} {t : TypeId} {cs : List Value} {A : Option Addr} {es : List Ent} (h : Mem w B A (pv es)) (hw : Whole w b t cs) (hr : ∀ v ∈ cs, ∀ s, v ≠ .string s) (hB : B ≤ w.heap.size) (hk : Kp (OnlyF b) w w') : Mem w' w'.heap.size A (pv es) := fun h0 => by
  obtain ⟨g, off, e, hb, hc⟩ := h h0
  have hne : g ≠ b := fun e => by
    subst e
    obtain ⟨s, hs⟩ := pv_str es 0 h0
    have h3 := hc 0 h0
    rw [hs, hw.cell] at h3
    exact hr _ (List.mem_of_getElem? h3) s rfl
  exact ⟨g, off, e, Nat.lt_of_lt_of_le (Nat.lt_of_lt_of_le hb hB) hk.size, fun i hi => (hk.cell (p := ⟨g, off + i, none⟩) (by show g < _; omega) (fun e => hne e)).trans (hc i hi)⟩
/-- while bytes are taken -/
structure TkSt (w wr : World) (B bo g : Nat) (A : Option Addr) (c : Nat) (b : List Ent) (xs : List Int) (err : Int) : Prop where
  bel : Below w.heap.size w wr
  res : Whole wr w.heap.size 25 [.slice none 0 0]
  box : Whole wr B 25 [.slice A b.length c]
  mem : Mem wr wr.heap.size A (pv b)
  opn : ∃ A' c', Opn wr bo g A' c' xs err
  bk : Bk b
  byt : Byt xs
  len : xs.length ≤ 100000
  d1 : w.heap.size < B
  d2 : w.heap.size < bo
  d3 : B ≠ bo
  d4 : w.heap.size < g
  d5 : B ≠ g
theorem TkSt.name {w wr w' : World} {B bo g : Nat} {A : Option Addr} {c : Nat} {b : List Ent} {xs r : List Int} {err err' : Int} (h : TkSt w wr B bo g A c b xs err) (ho : OpnTo wr bo g r err' w') (hx : Byt r) (hl : r.length ≤ xs.length) : TkSt w w' B bo g A c b r err' := by
  obtain ⟨A', c', h1, h2⟩ := ho
  obtain ⟨A0, c0, h0⟩ := h.opn
  have := h.d2
  have := h.len
  have := h.bel.size
  exact ⟨h.bel.trans (h2.below h.bel.size (fun i hi => by cases hi; omega)), h.res.kp h2 (fun e => by have e : w.heap.size = bo := e; omega), h.box.kp h2 h.d3, h.mem.far h0.box (fun v hv s => by simp at hv; rcases hv with rfl | rfl <;> simp) (Nat.le_refl _) h2, ⟨A', c', h1⟩, h.bk, hx, by omega, h.d1, h.d2, h.d3, h.d4, h.d5⟩
theorem TkSt.below {w wr w' : World} {B bo g : Nat} {A : Option Addr} {c : Nat} {b : List Ent} {xs : List Int} {err : Int} (h : TkSt w wr B bo g A c b xs err) (hb : Below wr.heap.size wr w') : TkSt w w' B bo g A c b xs err := by
  obtain ⟨A0, c0, h0⟩ := h.opn
  exact ⟨h.bel.trans (hb.mono h.bel.size), h.res.below hb h.res.lt, h.box.below hb h.box.lt, (h.mem.below hb).mono hb.size, ⟨A0, c0, h0.kp (F := NoF) (Kp.of_below hb) (fun h => h) (fun h => h)⟩, h.bk, h.byt, h.len, h.d1, h.d2, h.d3, h.d4, h.d5⟩
theorem TkSt.put {w wr : World} {B bo g : Nat} {A A' : Option Addr} {c c' : Nat} {b b' : List Ent} {xs : List Int} {err : Int} (h : TkSt w wr B bo g A c b xs err) (hm : Mem wr wr.heap.size A' (pv b')) (hb : Bk b') : TkSt w (wr.setCell ⟨B, 0, none⟩ (.slice A' b'.length c')) B bo g A' c' b' xs err := by
  obtain ⟨A0, c0, h0⟩ := h.opn
  have hk : Kp (OnlyF B) wr (wr.setCell ⟨B, 0, none⟩ (.slice A' b'.length c')) := Kp.set_only _ _ _ _
  have := h.d1
  exact ⟨h.bel.setCell (p := ⟨B, 0, none⟩) (by show w.heap.size ≤ B; omega) _, h.res.kp hk (fun e => by have e : w.heap.size = B := e; omega), h.box.set_ 0 _, (hm.give h.box (fun s e => by cases e)).mono (by simp), ⟨A0, c0, h0.kp hk (fun e => h.d3 e.symm) (fun e => h.d5 e.symm)⟩, hb, h.byt, h.len, h.d1, h.d2, h.d3, h.d4, h.d5⟩
theorem withL_bk {es : List Ent} {k v : ByteArray} (h : Bk es) : Bk (withL es k v) := by
  unfold withL
  split
  · rename_i hp
    exact h.put hp
  · exact h
theorem loopP_name {n : Nat} {b : List Ent} {xs : List Int} (h : nameL xs = none) : loopP (n + 1) b xs = none := by
  unfold loopP
  rw [h]
theorem loopP_name2 {n : Nat} {b : List Ent} {xs k r : List Int} (h : nameL xs = some (k, r)) (h2 : nameL r = none) : loopP (n + 1) b xs = none := by
  unfold loopP
  rw [h]
  simp only [h2]
theorem loopP_step {n : Nat} {b : List Ent} {xs k r v r2 : List Int} (h : nameL xs = some (k, r)) (h2 : nameL r = some (v, r2)) : loopP (n + 1) b xs = if putErr b (strOfNums k) (strOfNums v) = 0 then loopP n (putE b (strOfNums k) (strOfNums v)) r2 else none := by
  conv => lhs; unfold loopP
  rw [h]
  simp only [h2]
/-- what the bytes say, at the loop's head -/
def Sem (R : Option (List Ent × List Int)) (n : Nat) (b : List Ent) (xs : List Int) (err e : Int) : Prop := (e = 0 ∧ err = 0 ∧ R = loopP n b xs) ∨ ((e ≠ 0 ∨ err ≠ 0) ∧ R = none)
theorem Sem.step {R : Option (List Ent × List Int)} {n : Nat} {b : List Ent} {xs r1 r2 : List Int} {key val : ByteArray} {e1 e2 : Int} (h : Sem R (n + 1) b xs 0 0) (h1 : NameR xs 0 key r1 e1) (h2 : NameR r1 e1 val r2 e2) : Sem R n (withL b key val) r2 e2 (putErr b key val) := by
  have hR : R = loopP (n + 1) b xs := by
    rcases h with ⟨_, _, h⟩ | ⟨h, _⟩
    · exact h
    · exact absurd h (by simp)
  rcases h1 with ⟨_, rfl, k, hk, rfl⟩ | ⟨h1, rfl, he1⟩
  · rcases h2 with ⟨_, rfl, v, hv, rfl⟩ | ⟨h2, rfl, he2⟩
    · rw [loopP_step hk hv] at hR
      by_cases hp : putErr b (strOfNums k) (strOfNums v) = 0
      · rw [if_pos hp] at hR
        exact .inl ⟨hp, rfl, by rw [withL_ok hp]; exact hR⟩
      · rw [if_neg hp] at hR
        exact .inr ⟨.inl hp, hR⟩
    · have hn : nameL r1 = none := h2.resolve_left (fun h => h rfl)
      rw [loopP_name2 hk hn] at hR
      exact .inr ⟨.inr he2, hR⟩
  · have hn : nameL xs = none := h1.resolve_left (fun h => h rfl)
    rw [loopP_name hn] at hR
    refine .inr ⟨?_, hR⟩
    rcases h2 with ⟨h2, _⟩ | ⟨_, rfl, he2⟩
    · exact absurd h2 he1
    · exact .inr he2
def headR (xs : List Int) : Option (List Ent × List Int) := if 2 ≤ xs.length then loopP (Pl.un (xs.take 2)).toNat [] (xs.drop 2) else none
theorem takeP_head (xs : List Int) : takeP xs = match headR xs with
    | some (b, _) => if encB b = xs then some b else none
    | none => none := by
  unfold takeP headR
  split <;> rfl
theorem take_left {s : ByteArray} {b : List Ent} {xs : List Int} (h : headR (bs s) = some (b, xs)) (hx : xs ≠ []) : takeP (nS s) = none := by
  rw [takeP_head]
  show (match headR (bs s) with | some (b, _) => if encB b = nS s then some b else none | none => none) = none
  rw [h]
  simp only
  rw [if_neg]
  intro he
  unfold headR at h
  split at h
  · rename_i h2
    refine hx (loopP_left h ?_)
    have h3 : (encB b).length = (bs s).length := by rw [he]; rfl
    unfold encB at h3
    rw [List.length_append, Pl.be_len] at h3
    rw [List.length_drop]
    omega
  · cases h
theorem TkSt.give {w wr : World} {B bo g : Nat} {A : Option Addr} {c : Nat} {b : List Ent} {xs : List Int} {err : Int} (h : TkSt w wr B bo g A c b xs err) (A' : Option Addr) (n c' : Nat) : Whole (wr.setCell ⟨w.heap.size, 0, none⟩ (.slice A' n c')) w.heap.size 25 [.slice A' n c'] ∧ Below w.heap.size w (wr.setCell ⟨w.heap.size, 0, none⟩ (.slice A' n c')) :=
  ⟨h.res.set_ 0 _, h.bel.setCell (p := ⟨w.heap.size, 0, none⟩) (Nat.le_refl _) _⟩
end Go.Proofs.YtokibbgahefkbaaGreatDoor.Fe
