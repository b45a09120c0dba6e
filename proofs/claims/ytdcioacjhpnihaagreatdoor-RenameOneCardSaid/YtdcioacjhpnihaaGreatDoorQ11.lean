/- Contracts at the seat, off the shelf: strings.Repeat, slices.Sorted of a page map's keys, slices.Insert of strings. Walk of crc.Sum: the checksum, as the run reckons it. Tables out of a program's own lists. ATab What the run takes for granted at this seat: tables, contracts, externs, deferred calls that do nothing. -/
import Derived.Test.YtdcioacjhpnihaaGreatDoorQ10
import Derived.Tactics
import Derived.WalkCall
import Derived.IntWalk
import Derived.Laws.Closers25b
import Derived.Shelf.Spec.TrailingZeros
import Derived.Test.YtdcioacjhpnihaaGreatDoorQ9
import Derived.Shelf.Abstract
import Derived.Test.YtdcioacjhpnihaaGreatDoorQ7
import Derived.Test.YtdcioacjhpnihaaGreatDoorProg
import Derived.Laws.Externs
import Derived.RecoverIn
set_option linter.all false
namespace Go.Proofs.YtdcioacjhpnihaaGreatDoor
open Go Go.RowKit Go.Maps Go.ChangeMaps Go.Lib Go.Shelf Go.Sort

theorem extra : Builder.Extra Tryz.prog Tryz.lays105_ren := {
  sizeBuilder := by kernel_rfl
  liesBuilder := by kernel_rfl
  t5 := Tryz.lays105.t5
  a5 := Tryz.lays105.a5
  z5 := Tryz.lays105.z5
  v5 := Tryz.lays105.v5
  infoByte := by kernel_rfl
  cellsByte := by kernel_rfl
  sizeByte := by kernel_rfl
  neB5 := by decide }
theorem rep_any (b : ByteArray) (c : Nat) (w : World) (hc : c ≤ 1000000) (hl : b.size * c ≤ 140737488355328) : Calls Tryz.prog 135 #[.string b, .int .i64 c] w fun e w' => e = .returned (.string ⟨(Lib.repeatL b.data.toList c).toArray⟩) ∧ Below w.heap.size w w' :=
  Any.strings_Repeat Tryz.lays105 extra b c w (by omega) hl
theorem psorts (m : Nat) : AnyZI.SortsIn Tryz.prog Tryz.sortedP_ren Fence.wide m :=
  ⟨fun blk off cap ss W hH hblk hsz => callsIn_wide.2 (AnyM.slices_Sort_int Tryz.sortP blk off cap ss W hH hblk hsz),
   fun p cap W => callsIn_wide.2 (AnyM.slices_Sort_int_none Tryz.sortP p cap W)⟩
set_option maxHeartbeats 1000000 in
theorem sorted_any (kp b nn : Nat) (D : DataW Value) (w : World) (hlt : kp < w.heap.size) (hc : w.cell? ⟨kp, 0, none⟩ = some (.map (some b))) (hown : w.ownsMap Tryz.prog 3 RV b nn D) (hmax : Maps.size D ≤ 100000) :
    Calls Tryz.prog 274 #[.func (.func 347) #[] #[.pointer (some ⟨kp, 0, none⟩)]] w fun e w' => ∃ (v : Value) (ss : List Int), e = .returned v ∧ ss.Perm (intKeys D) ∧
      w'.ownsRow w.heap.size 3 1 v ss.length ((ss.mergeSort (fun x y => decide (x ≤ y))).map fun x => .int .i64 x) ∧ Below w.heap.size w w' := by
  have hseq : SeqGives Fence.wide 2 Tryz.prog 347 #[.pointer (some ⟨kp, 0, none⟩)] encZ (fun ss => ss.Perm (intKeys D)) (Maps.size D) w :=
    AnyZI.keys_gives (ρ := Tryz.keysP_ren) { Tryz.keysP with } Fence.wide _ trivial rfl (by omega) kp b nn D _ hlt hc hown
  have cS := AnyZI.sorted_in Tryz.sortedP Fence.wide 5 trivial trivial trivial trivial rfl (by omega) (psorts _) (enters_of Tryz.func346 (by kernel_rfl) rfl) 347 #[.pointer (some ⟨kp, 0, none⟩)] trivial (enters_of Tryz.func347 (by kernel_rfl) rfl) _ _ (by unfold maxLen; omega) (by omega) _ hseq
  change CallsIn _ _ Tryz.prog 274 _ _ _ at cS
  refine (callsIn_wide.1 cS).mono ?_
  rintro e w' ⟨v, ss, rfl, hS, hrow, _, hb⟩
  exact ⟨v, ss, rfl, hS, hrow, hb⟩
theorem ins1_any (b n c i vb : Nat) (cs : List Value) (v : Value) (w : World) (hi : i < n) (hroom : n + 1 ≤ c) (hc : c ≤ 9223372036854775807) (hvb : vb ≠ b) (hcl : cs.length = n) (hcs : ∀ j v, cs[j]? = some v → w.cell? ⟨b, 0 + j, none⟩ = some v) (hsp : ∀ j, j < n + 1 → (w.cell? ⟨b, 0 + j, none⟩).isSome = true) (hfz : ∀ j, j < n + 1 → w.frozen? ⟨b, 0 + j, none⟩ = false)
    (hvs : ∀ j u, [v][j]? = some u → w.cell? ⟨vb, 0 + j, none⟩ = some u) (h1c : ∀ v ∈ cs, v.oneCell' = true) (h1v : ∀ u ∈ [v], u.oneCell' = true) (tA tB : TypeId) (kA kB : Nat) (hsa : w.shape? vb = some (tA, kA)) (hsb : w.shape? b = some (tB, kB)) (hkB : kB ≠ 0) (hfa : w.frozen? ⟨vb, 0, none⟩ = false) (hfe : w.frozen? ⟨vb, kA, none⟩ = false) :
    Calls Tryz.prog 370 #[.slice (some ⟨b, 0, none⟩) n c, .int .i64 i, .slice (some ⟨vb, 0, none⟩) 1 1] w fun e w' => e = .returned (.slice (some ⟨b, 0, none⟩) (n + 1) c) ∧ w' = (w.drew.setCells b (0 + (i + 1)) (cs.drop i)).setCells b (0 + i) [v] :=
  Any2.slices_Insert_string_shift Tryz.ins22 b 0 n c i vb 0 1 1 cs [v] w hi (by decide) hroom hc hvb hcl rfl hcs hsp hfz hvs h1c h1v tA tB kA kB hsa hsb hkB hfa hfe
theorem ins2_any (b n c i vb : Nat) (cs : List Value) (v : Value) (w : World) (hi : i < n) (hnc : n ≤ c) (hroom : c < n + 1) (hbig : (n + 1) * 16 ≤ 140737488355328) (hcl : cs.length = n) (hcs : ∀ j v, cs[j]? = some v → w.cell? ⟨b, 0 + j, none⟩ = some v) (hvs : ∀ j u, [v][j]? = some u → w.cell? ⟨vb, 0 + j, none⟩ = some u) (h1c : ∀ v ∈ cs, v.oneCell' = true) (h1v : ∀ u ∈ [v], u.oneCell' = true) :
    Calls Tryz.prog 370 #[.slice (some ⟨b, 0, none⟩) n c, .int .i64 i, .slice (some ⟨vb, 0, none⟩) 1 1] w fun e w' => e = .returned (.slice (some ⟨w.heap.size, 0, none⟩) (n + 1) (grownCap w (n + 1) c 9)) ∧
      w' = (((w.alloc (.cells ((cs.take i).toArray ++ Builtin.zeroCells (Value.string ⟨#[]⟩).cells (n + 1 - i) ++ Builtin.zeroCells (Value.string ⟨#[]⟩).cells (grownCap w (n + 1) c 9 - (n + 1))) 9)).drew.setCells w.heap.size i [v]).drew).setCells w.heap.size (i + 1) (cs.drop i) :=
  Any2.slices_Insert_string_grow Tryz.ins22 b 0 n c i vb 0 1 1 cs [v] w hi (by decide) hnc hroom hbig hcl rfl hcs hvs h1c h1v
end Go.Proofs.YtdcioacjhpnihaaGreatDoor
namespace Go.Proofs.YtdcioacjhpnihaaGreatDoor
open Go Go.RowKit

def halvesI : List Int := [0, 274646895, 549293790, 820201905, 1098587580, 1361435347, 1640403810, 1905808397, 2197175160, 2460548119, 2722870694, 2987750089, 3280807620, 3553878443, 3811616794, 4084100981]
def low4 (n : Int) : Int := bits BinOp.and IntKind.u32 n 15
theorem low4_lt {n : Int} (h0 : 0 ≤ n) (h1 : n ≤ 4294967295) : 0 ≤ bits BinOp.and IntKind.u32 n 15 ∧ bits BinOp.and IntKind.u32 n 15 < 16 := by
  have h := bits_and_u32_nat n.toNat 15 (by omega) (by decide)
  have e : ((n.toNat : Nat) : Int) = n := by omega
  have e2 : ((15 : Nat) : Int) = 15 := rfl
  rw [e, e2] at h
  rw [h]
  have : n.toNat &&& 15 ≤ 15 := Nat.and_le_right
  omega
def crc1 (n : Int) : Int := bits BinOp.xor IntKind.u32 (halvesI.getD (low4 n).toNat 0) (n / 16)
def crcB (n c : Int) : Int := crc1 (crc1 (bits BinOp.xor IntKind.u32 n c))
def crcL (xs : List Int) : Int := xs.foldl crcB 4294967295
def crcT (m : Int) : Nat → Int
  | 0 => m
  | k + 1 => crc1 (crcT m k)
theorem bits_u32 (op : BinOp) (a b : Int) : 0 ≤ bits op .u32 a b ∧ bits op .u32 a b ≤ 4294967295 := ⟨bits_lo_u32 op a b, bits_hi_u32 op a b⟩
theorem crc1_bound (n : Int) : 0 ≤ crc1 n ∧ crc1 n ≤ 4294967295 := by
  unfold crc1
  exact bits_u32 _ _ _
theorem crcT_bound {m : Int} (h : 0 ≤ m ∧ m ≤ 4294967295) (k : Nat) : 0 ≤ crcT m k ∧ crcT m k ≤ 4294967295 := by
  cases k with
  | zero => exact h
  | succ k => exact crc1_bound _
theorem crcT_step (m : Int) (k : Nat) : crcT m (k + 1) = crc1 (crcT m k) := rfl
theorem crcL_step (xs : List Int) (j : Nat) (h : j < xs.length) : crcL (xs.take (j + 1)) = crcT (bits BinOp.xor IntKind.u32 (crcL (xs.take j)) xs[j]) 2 := by
  unfold crcL
  rw [List.take_succ_eq_append_getElem h, List.foldl_append]
  rfl
theorem crcL_bound (xs : List Int) : 0 ≤ crcL xs ∧ crcL xs ≤ 4294967295 := by
  unfold crcL
  suffices h : ∀ n : Int, 0 ≤ n ∧ n ≤ 4294967295 → 0 ≤ xs.foldl crcB n ∧ xs.foldl crcB n ≤ 4294967295 from h _ (by decide)
  induction xs with
  | nil => exact fun n h => h
  | cons x xs ih => exact fun n _ => ih _ (crc1_bound _)
/-! ### the same, by natural numbers -/
theorem bits_xor_u32_nat (a b : Nat) (ha : a < 4294967296) (hb : b < 4294967296) : bits .xor .u32 (a : Int) (b : Int) = ((a ^^^ b : Nat) : Int) := by
  have hx : a ^^^ b < 2 ^ 32 := Nat.xor_lt_two_pow (by omega) (by omega)
  have h1 : (BitVec.ofInt 32 (a : Int)).toNat = a := by
    rw [BitVec.ofInt_natCast, BitVec.toNat_ofNat]; exact Nat.mod_eq_of_lt (by omega)
  have h2 : (BitVec.ofInt 32 (b : Int)).toNat = b := by
    rw [BitVec.ofInt_natCast, BitVec.toNat_ofNat]; exact Nat.mod_eq_of_lt (by omega)
  show IntKind.u32.wrap ((BitVec.ofInt 32 (a : Int) ^^^ BitVec.ofInt 32 (b : Int)).toNat : Int) = _
  rw [BitVec.toNat_xor, h1, h2, wrap_u32']
  omega
theorem xor_n (a b : Nat) (ha : a < 4294967296) (hb : b < 4294967296) : bits BinOp.xor IntKind.u32 (a : Int) (b : Int) = ((Nat.xor a b : Nat) : Int) := bits_xor_u32_nat a b ha hb
theorem xor_lt {a b : Nat} (ha : a < 4294967296) (hb : b < 4294967296) : Nat.xor a b < 4294967296 := by
  have := Nat.xor_lt_two_pow (x := a) (y := b) (n := 32) ha hb
  exact this
theorem lgetD_halves : ∀ k, k < 16 → halvesI.getD k 0 = ((lgetD hvs k : Nat) : Int) ∧ lgetD hvs k < 4294967296 := by decide
theorem crc1_n (n : Nat) (h : n < 4294967296) : crc1 (n : Int) = ((crcS n : Nat) : Int) ∧ crcS n < 4294967296 := by
  have h1 : low4 (n : Int) = ((n % 16 : Nat) : Int) := by
    have h2 := bits_and_u32_nat n 15 h (by decide)
    unfold low4
    have e2 : ((15 : Nat) : Int) = 15 := rfl
    rw [← e2, h2]
    congr 1
    exact Nat.and_two_pow_sub_one_eq_mod n 4
  obtain ⟨h3, h4⟩ := lgetD_halves (n % 16) (Nat.mod_lt _ (by decide))
  have h5 : n / 16 < 4294967296 := by omega
  have e : crcS n = Nat.xor (lgetD hvs (n % 16)) (n / 16) := rfl
  rw [e]
  refine ⟨?_, xor_lt h4 h5⟩
  unfold crc1
  rw [h1]
  have h6 : ((n % 16 : Nat) : Int).toNat = n % 16 := by omega
  rw [h6, h3, ← xor_n _ _ h4 h5]
  congr 1
theorem crcL_n : ∀ (ns : List Nat) (n : Nat), (∀ x ∈ ns, x < 256) → n < 4294967296 → (castL ns).foldl crcB (n : Int) = ((crcL' ns n : Nat) : Int) ∧ crcL' ns n < 4294967296
  | [], n, _, h => ⟨rfl, h⟩
  | x :: ns, n, hx, h => by
    have hx0 : x < 4294967296 := by have := hx x List.mem_cons_self; omega
    have a0 := xor_lt h hx0
    obtain ⟨a1, a2⟩ := crc1_n _ a0
    obtain ⟨a3, a4⟩ := crc1_n _ a2
    have e : crcL' (x :: ns) n = crcL' ns (crcS (crcS (Nat.xor n x))) := rfl
    rw [e]
    obtain ⟨b1, b2⟩ := crcL_n ns _ (fun y hy => hx y (List.mem_cons_of_mem _ hy)) a4
    refine ⟨?_, b2⟩
    show (castL ns).foldl crcB (crcB (n : Int) (x : Int)) = _
    unfold crcB
    rw [xor_n _ _ h hx0, a1, a3]
    exact b1
theorem crc_n (ns : List Nat) (h : ∀ x ∈ ns, x < 256) : bits BinOp.xor IntKind.u32 4294967295 (crcL (castL ns)) = ((crcN ns : Nat) : Int) := by
  obtain ⟨h1, h2⟩ := crcL_n ns 4294967295 h (by decide)
  unfold crcL
  have e : ((4294967295 : Nat) : Int) = 4294967295 := rfl
  rw [e] at h1
  rw [h1, ← e, xor_n _ _ (by decide) h2]
  rfl
set_option maxHeartbeats 1000000 in
set_option maxRecDepth 20000 in
theorem sum_any (A : Option Addr) (ns : List Nat) (c : Nat) (w : World) (hx : ∀ x ∈ ns, x < 256) (hm : 0 < ns.length → ∃ b o, A = some ⟨b, o, none⟩ ∧ b < w.heap.size ∧ ∀ (i x : Nat), ns[i]? = some x → w.cell? ⟨b, o + i, none⟩ = some (.int .u8 (.ofNat x)))
    (ht : ∀ (j x : Nat), hvs[j]? = some x → w.cell? ⟨4, j, none⟩ = some (.int .u32 (.ofNat x))) (hl : ns.length ≤ 1000000) :
    Calls Tryz.prog 351 #[.slice A ns.length c] w fun e w' => e = .returned (.int .u32 (.ofNat (crcN ns))) ∧ w' = w := by
  have hres := crc_n ns hx
  have hlen : (castL ns).length = ns.length := by simp [castL]
  have HM := hide hm
  have HX := hide (show ∀ x ∈ castL ns, 0 ≤ x ∧ x < 256 from fun x hx' => by
    obtain ⟨k, hk, rfl⟩ := List.mem_map.1 hx'
    have := hx k hk
    omega)
  have HT := hide (show ∀ j, j < 16 → w.cell? ⟨4, j, none⟩ = some (.int .u32 (halvesI.getD j 0)) from fun j hj => by
    rw [(lgetD_halves j hj).1]
    refine ht j _ ?_
    have : ∀ j, j < 16 → hvs[j]? = some (lgetD hvs j) := by decide
    exact this j hj)
  have HRes := hide hres
  have HC := hide (show ∀ j y, (castL ns)[j]? = some y → ∃ b o, A = some ⟨b, o, none⟩ ∧ w.cell? ⟨b, o + j, none⟩ = some (.int .u8 y) from fun j y h => by
    unfold castL at h
    rw [List.getElem?_map] at h
    obtain ⟨k, h1, h2⟩ := Option.map_eq_some_iff.1 h
    have hj := (List.getElem?_eq_some_iff.1 h1).1
    obtain ⟨b, o, h3, _, h4⟩ := hm (by omega)
    refine ⟨b, o, h3, ?_⟩
    rw [h4 j k h1, ← h2]
    rfl)
  have HLen := hide hlen
  clear hm hx ht hres hlen
  generalize hQ : (fun (e : Ending) (w' : World) => e = .returned (.int .u32 (.ofNat (crcN ns))) ∧ w' = w) = Q
  have HQ := hide hQ
  clear hQ
  generalize castL ns = xs at *
  generalize ns.length = nl at *
  have hlx : xs.length = nl := HLen.out
  go_enter Tryz.func351, Tryz.ntmps351
  go_wp2
  go_loop [3, 8] (fun v i => ∃ j : Nat, j ≤ nl ∧ i = .int .i64 j ∧ v = .int .u32 (crcL (xs.take j))) (fun _ i => nl - (intOf i).toNat)
  case atStart => exact ⟨0, Nat.zero_le _, rfl, rfl⟩
  case round =>
    obtain ⟨j, hj, rfl, rfl⟩ := hrel
    by_cases hlt : j < nl
    · have HB := hide (crcL_bound (xs.take j))
      have hlt' : j < xs.length := by omega
      have HS := hide (crcL_step xs j hlt')
      obtain ⟨b, off, rfl, f1⟩ := HC.out j xs[j] (List.getElem?_eq_getElem hlt')
      have hx := HX.out xs[j] (List.getElem_mem hlt')
      generalize xs[j] = y at *
      generalize crcL (xs.take j) = n at *
      go_wp2
      have HB2 := hide (bits_u32 BinOp.xor n y)
      generalize bits BinOp.xor IntKind.u32 n y = m at *
      go_loop [3, 16] (fun v i => ∃ k : Nat, k ≤ 2 ∧ i = .int .i64 k ∧ v = .int .u32 (crcT m k)) (fun _ i => 2 - (intOf i).toNat)
      case atStart => exact ⟨0, Nat.zero_le _, rfl, rfl⟩
      case round =>
        obtain ⟨k, hk, rfl, rfl⟩ := hrel
        by_cases hlt2 : k < 2
        · have HZ := hide (crcT_bound HB2.out k)
          have HZ2 := hide (crcT_step m k)
          generalize crcT m k = z at *
          obtain ⟨l0, l1⟩ := low4_lt HZ.out.1 HZ.out.2
          have fT := HT.out (bits BinOp.and IntKind.u32 z 15).toNat (by omega)
          have z0 := HZ.out.1
          go_wp2
          go_round
          case rel => exact ⟨k + 1, by omega, by go_num, by rw [HZ2.out]; rfl⟩
          case measure => simp [intOf]; omega
        · obtain rfl : k = 2 := by omega
          go_wp2
          go_round
          case rel => exact ⟨j + 1, by omega, by go_num, by rw [HS.out]⟩
          case measure => simp [intOf]; omega
    · obtain rfl : j = nl := by omega
      go_wp2
      rw [← HQ.out]
      refine ⟨?_, rfl⟩
      rw [List.take_of_length_le (by omega)]
      have h := HRes.out
      show Ending.returned (.int .u32 (bits BinOp.xor IntKind.u32 4294967295 (crcL xs))) = .returned (.int .u32 ((crcN ns : Nat) : Int))
      rw [h]
end Go.Proofs.YtdcioacjhpnihaaGreatDoor
namespace Go.Proofs.YtdcioacjhpnihaaGreatDoor
open Go Go.Shelf Go.Proofs
noncomputable section
def ev {α : Type} : List α → List α
  | [] => []
  | [x] => [x]
  | x :: _ :: l => x :: ev l
def od {α : Type} : List α → List α
  | [] => []
  | [_] => []
  | _ :: y :: l => y :: od l
theorem ev_get {α : Type} : ∀ (l : List α) (k : Nat), (ev l)[k]? = l[2 * k]?
  | [], k => by simp [ev]
  | [x], 0 => rfl
  | [x], k + 1 => by simp [ev]
  | x :: y :: l, 0 => rfl
  | x :: y :: l, k + 1 => by
    rw [ev, List.getElem?_cons_succ, ev_get l k, show 2 * (k + 1) = 2 * k + 1 + 1 by omega, List.getElem?_cons_succ, List.getElem?_cons_succ]
theorem od_get {α : Type} : ∀ (l : List α) (k : Nat), (od l)[k]? = l[2 * k + 1]?
  | [], k => by simp [od]
  | [x], k => by simp [od]
  | x :: y :: l, 0 => rfl
  | x :: y :: l, k + 1 => by
    rw [od, List.getElem?_cons_succ, od_get l k, show 2 * (k + 1) + 1 = 2 * k + 1 + 1 + 1 by omega, List.getElem?_cons_succ, List.getElem?_cons_succ]
theorem ev_len {α : Type} : ∀ (l : List α), (ev l).length = (l.length + 1) / 2
  | [] => by simp [ev]
  | [x] => by simp [ev]
  | x :: y :: l => by rw [ev, List.length_cons, ev_len l, List.length_cons, List.length_cons]; omega
theorem od_len {α : Type} : ∀ (l : List α), (od l).length = l.length / 2
  | [] => by simp [od]
  | [x] => by simp [od]
  | x :: y :: l => by rw [od, List.length_cons, od_len l, List.length_cons, List.length_cons]; omega
def mkO {α : Type} : Nat → List (Option α) → T α
  | 0, _ => .leaf
  | _ + 1, [] => .leaf
  | n + 1, x :: l => .node (mkO n (ev l)) x (mkO n (od l))
theorem mkO_get {α : Type} : ∀ (n : Nat) (l : List (Option α)) (k : Nat), l.length < 2 ^ n → (mkO n l).get k = (l[k]?).join
  | 0, l, k, h => by
    have : l = [] := List.eq_nil_of_length_eq_zero (by simpa using h)
    subst this
    exact T.get_leaf k
  | n + 1, [], k, _ => T.get_leaf k
  | n + 1, x :: l, k, h => by
    rw [List.length_cons, Nat.pow_succ] at h
    rw [mkO, T.get_node]
    by_cases h0 : k = 0
    · subst h0; rfl
    · rw [if_neg h0]
      by_cases h1 : k % 2 = 1
      · rw [if_pos h1, mkO_get n _ _ (by rw [ev_len]; omega), ev_get]
        obtain ⟨j, rfl⟩ : ∃ j, k = 2 * j + 1 := ⟨k / 2, by omega⟩
        rw [show (2 * j + 1) / 2 = j by omega, List.getElem?_cons_succ]
      · rw [if_neg h1, mkO_get n _ _ (by rw [od_len]; omega), od_get]
        obtain ⟨j, rfl⟩ : ∃ j, k = 2 * j + 1 + 1 := ⟨k / 2 - 1, by omega⟩
        rw [show (2 * j + 1 + 1) / 2 - 1 = j by omega, List.getElem?_cons_succ]
theorem info_of {P : Program} {i : TypeId} {x : TypeInfo} (h : P.types[i]? = some x) : P.info? i = some x := by
  unfold Tables.info?
  rw [if_pos (Array.getElem?_eq_some_iff.1 h).1]
  exact h
def okF (fn : Func) : Bool := match fn.body with
  | some _ => !(fn.name == "runtime.NumGoroutine")
  | none => false
def funL (P : Program) : List (Option Func) := P.funcs.toList.map fun fn => if okF fn then some fn else none
def typL (P : Program) : List (Option TypeInfo) := P.types.toList.map some
theorem typ_ok {P : Program} {t : T TypeInfo} {n : Nat} (h : t = mkO n (typL P)) (hn : P.types.size < 2 ^ n) {i : TypeId} {x : TypeInfo} (hx : t.get i = some x) : P.types[i]? = some x := by
  rw [h, mkO_get _ _ _ (by simp [typL]; exact hn)] at hx
  unfold typL at hx
  rw [List.getElem?_map, Array.getElem?_toList] at hx
  cases hp : P.types[i]? with
  | none => rw [hp] at hx; cases hx
  | some y => rw [hp] at hx; cases hx; rfl
theorem fun_ok {P : Program} {t : T Func} {n : Nat} (h : t = mkO n (funL P)) (hn : P.funcs.size < 2 ^ n) {f : FuncId} {fn : Func} (hx : t.get f = some fn) : P.funcs[f]? = some fn ∧ ∀ args w, (callFunc f args).run P w = .ok (.enter f args) w := by
  rw [h, mkO_get _ _ _ (by simp [funL]; exact hn)] at hx
  unfold funL at hx
  rw [List.getElem?_map, Array.getElem?_toList] at hx
  cases hp : P.funcs[f]? with
  | none => rw [hp] at hx; cases hx
  | some y =>
    rw [hp] at hx
    simp only [Option.map_some, Option.join_some] at hx
    split at hx
    · rename_i ho
      cases hx
      unfold okF at ho
      split at ho
      · rename_i c hc
        have h1 : (fn.name == "runtime.NumGoroutine") = false := by simpa using ho
        exact ⟨rfl, enters_of hp h1 hc⟩
      · cases ho
    · cases hx
end
end Go.Proofs.YtdcioacjhpnihaaGreatDoor
namespace Go.Proofs.YtdcioacjhpnihaaGreatDoor
open Go
noncomputable def funTlll : T Func := .node (.node (.node (.node (.node (.node (.node .leaf none .leaf) (some Tryz.f255) .leaf) (some Tryz.f127) (.node .leaf (some Tryz.f383) .leaf)) (some Tryz.f63) (.node (.node .leaf (some Tryz.f319) .leaf) (some Tryz.f191) (.node .leaf (some Tryz.f447) .leaf))) (some Tryz.f31) (.node (.node (.node .leaf (some Tryz.f287) .leaf) (some Tryz.f159) (.node .leaf (some Tryz.f415) .leaf)) (some Tryz.f95) (.node (.node .leaf (some Tryz.f351) .leaf) (some Tryz.f223) (.node .leaf none .leaf)))) (some Tryz.f15) (.node (.node (.node (.node .leaf (some Tryz.f271) .leaf) (some Tryz.f143) (.node .leaf (some Tryz.f399) .leaf)) (some Tryz.f79) (.node (.node .leaf (some Tryz.f335) .leaf) (some Tryz.f207) (.node .leaf (some Tryz.f463) .leaf))) (some Tryz.f47) (.node (.node (.node .leaf (some Tryz.f303) .leaf) (some Tryz.f175) (.node .leaf (some Tryz.f431) .leaf)) (some Tryz.f111) (.node (.node .leaf (some Tryz.f367) .leaf) (some Tryz.f239) (.node .leaf (some Tryz.f495) .leaf))))) (some Tryz.f7) (.node (.node (.node (.node (.node .leaf (some Tryz.f263) .leaf) (some Tryz.f135) (.node .leaf (some Tryz.f391) .leaf)) (some Tryz.f71) (.node (.node .leaf (some Tryz.f327) .leaf) (some Tryz.f199) (.node .leaf (some Tryz.f455) .leaf))) (some Tryz.f39) (.node (.node (.node .leaf (some Tryz.f295) .leaf) (some Tryz.f167) (.node .leaf (some Tryz.f423) .leaf)) (some Tryz.f103) (.node (.node .leaf (some Tryz.f359) .leaf) (some Tryz.f231) (.node .leaf none .leaf)))) (some Tryz.f23) (.node (.node (.node (.node .leaf (some Tryz.f279) .leaf) (some Tryz.f151) (.node .leaf (some Tryz.f407) .leaf)) (some Tryz.f87) (.node (.node .leaf (some Tryz.f343) .leaf) (some Tryz.f215) (.node .leaf none .leaf))) (some Tryz.f55) (.node (.node (.node .leaf (some Tryz.f311) .leaf) (some Tryz.f183) (.node .leaf (some Tryz.f439) .leaf)) (some Tryz.f119) (.node (.node .leaf (some Tryz.f375) .leaf) (some Tryz.f247) (.node .leaf (some Tryz.f503) .leaf)))))
noncomputable def funTllr : T Func := .node (.node (.node (.node (.node (.node (.node .leaf (some Tryz.f515) .leaf) (some Tryz.f259) .leaf) (some Tryz.f131) (.node .leaf (some Tryz.f387) .leaf)) (some Tryz.f67) (.node (.node .leaf (some Tryz.f323) .leaf) (some Tryz.f195) (.node .leaf (some Tryz.f451) .leaf))) (some Tryz.f35) (.node (.node (.node .leaf (some Tryz.f291) .leaf) (some Tryz.f163) (.node .leaf (some Tryz.f419) .leaf)) (some Tryz.f99) (.node (.node .leaf (some Tryz.f355) .leaf) (some Tryz.f227) (.node .leaf none .leaf)))) (some Tryz.f19) (.node (.node (.node (.node .leaf (some Tryz.f275) .leaf) (some Tryz.f147) (.node .leaf (some Tryz.f403) .leaf)) (some Tryz.f83) (.node (.node .leaf (some Tryz.f339) .leaf) (some Tryz.f211) (.node .leaf none .leaf))) (some Tryz.f51) (.node (.node (.node .leaf (some Tryz.f307) .leaf) (some Tryz.f179) (.node .leaf (some Tryz.f435) .leaf)) (some Tryz.f115) (.node (.node .leaf (some Tryz.f371) .leaf) (some Tryz.f243) (.node .leaf (some Tryz.f499) .leaf))))) (some Tryz.f11) (.node (.node (.node (.node (.node .leaf (some Tryz.f267) .leaf) (some Tryz.f139) (.node .leaf (some Tryz.f395) .leaf)) (some Tryz.f75) (.node (.node .leaf (some Tryz.f331) .leaf) (some Tryz.f203) (.node .leaf (some Tryz.f459) .leaf))) (some Tryz.f43) (.node (.node (.node .leaf (some Tryz.f299) .leaf) (some Tryz.f171) (.node .leaf (some Tryz.f427) .leaf)) (some Tryz.f107) (.node (.node .leaf (some Tryz.f363) .leaf) (some Tryz.f235) (.node .leaf none .leaf)))) (some Tryz.f27) (.node (.node (.node (.node .leaf (some Tryz.f283) .leaf) (some Tryz.f155) (.node .leaf (some Tryz.f411) .leaf)) (some Tryz.f91) (.node (.node .leaf (some Tryz.f347) .leaf) (some Tryz.f219) (.node .leaf none .leaf))) (some Tryz.f59) (.node (.node (.node .leaf (some Tryz.f315) .leaf) (some Tryz.f187) (.node .leaf (some Tryz.f443) .leaf)) (some Tryz.f123) (.node (.node .leaf (some Tryz.f379) .leaf) (some Tryz.f251) (.node .leaf none .leaf)))))
noncomputable def funTll : T Func := .node funTlll (some Tryz.f3) funTllr
noncomputable def funTlrl : T Func := .node (.node (.node (.node (.node (.node (.node .leaf none .leaf) (some Tryz.f257) .leaf) (some Tryz.f129) (.node .leaf (some Tryz.f385) .leaf)) (some Tryz.f65) (.node (.node .leaf (some Tryz.f321) .leaf) (some Tryz.f193) (.node .leaf (some Tryz.f449) .leaf))) (some Tryz.f33) (.node (.node (.node .leaf (some Tryz.f289) .leaf) (some Tryz.f161) (.node .leaf (some Tryz.f417) .leaf)) (some Tryz.f97) (.node (.node .leaf (some Tryz.f353) .leaf) (some Tryz.f225) (.node .leaf none .leaf)))) (some Tryz.f17) (.node (.node (.node (.node .leaf (some Tryz.f273) .leaf) (some Tryz.f145) (.node .leaf (some Tryz.f401) .leaf)) (some Tryz.f81) (.node (.node .leaf (some Tryz.f337) .leaf) (some Tryz.f209) (.node .leaf (some Tryz.f465) .leaf))) (some Tryz.f49) (.node (.node (.node .leaf (some Tryz.f305) .leaf) (some Tryz.f177) (.node .leaf (some Tryz.f433) .leaf)) (some Tryz.f113) (.node (.node .leaf none .leaf) (some Tryz.f241) (.node .leaf (some Tryz.f497) .leaf))))) (some Tryz.f9) (.node (.node (.node (.node (.node .leaf (some Tryz.f265) .leaf) (some Tryz.f137) (.node .leaf (some Tryz.f393) .leaf)) (some Tryz.f73) (.node (.node .leaf (some Tryz.f329) .leaf) (some Tryz.f201) (.node .leaf (some Tryz.f457) .leaf))) (some Tryz.f41) (.node (.node (.node .leaf (some Tryz.f297) .leaf) (some Tryz.f169) (.node .leaf (some Tryz.f425) .leaf)) (some Tryz.f105) (.node (.node .leaf (some Tryz.f361) .leaf) (some Tryz.f233) (.node .leaf (some Tryz.f489) .leaf)))) (some Tryz.f25) (.node (.node (.node (.node .leaf (some Tryz.f281) .leaf) (some Tryz.f153) (.node .leaf (some Tryz.f409) .leaf)) (some Tryz.f89) (.node (.node .leaf (some Tryz.f345) .leaf) (some Tryz.f217) (.node .leaf none .leaf))) (some Tryz.f57) (.node (.node (.node .leaf (some Tryz.f313) .leaf) (some Tryz.f185) (.node .leaf (some Tryz.f441) .leaf)) (some Tryz.f121) (.node (.node .leaf (some Tryz.f377) .leaf) (some Tryz.f249) (.node .leaf (some Tryz.f505) .leaf)))))
noncomputable def funTlrr : T Func := .node (.node (.node (.node (.node (.node .leaf (some Tryz.f261) .leaf) (some Tryz.f133) (.node .leaf (some Tryz.f389) .leaf)) (some Tryz.f69) (.node (.node .leaf (some Tryz.f325) .leaf) (some Tryz.f197) (.node .leaf (some Tryz.f453) .leaf))) (some Tryz.f37) (.node (.node (.node .leaf (some Tryz.f293) .leaf) (some Tryz.f165) (.node .leaf (some Tryz.f421) .leaf)) (some Tryz.f101) (.node (.node .leaf (some Tryz.f357) .leaf) (some Tryz.f229) (.node .leaf none .leaf)))) (some Tryz.f21) (.node (.node (.node (.node .leaf (some Tryz.f277) .leaf) (some Tryz.f149) (.node .leaf (some Tryz.f405) .leaf)) (some Tryz.f85) (.node (.node .leaf (some Tryz.f341) .leaf) (some Tryz.f213) (.node .leaf (some Tryz.f469) .leaf))) (some Tryz.f53) (.node (.node (.node .leaf (some Tryz.f309) .leaf) (some Tryz.f181) (.node .leaf (some Tryz.f437) .leaf)) (some Tryz.f117) (.node (.node .leaf (some Tryz.f373) .leaf) (some Tryz.f245) (.node .leaf (some Tryz.f501) .leaf))))) (some Tryz.f13) (.node (.node (.node (.node (.node .leaf (some Tryz.f269) .leaf) (some Tryz.f141) (.node .leaf (some Tryz.f397) .leaf)) (some Tryz.f77) (.node (.node .leaf (some Tryz.f333) .leaf) (some Tryz.f205) (.node .leaf (some Tryz.f461) .leaf))) (some Tryz.f45) (.node (.node (.node .leaf (some Tryz.f301) .leaf) (some Tryz.f173) (.node .leaf none .leaf)) (some Tryz.f109) (.node (.node .leaf (some Tryz.f365) .leaf) (some Tryz.f237) (.node .leaf none .leaf)))) (some Tryz.f29) (.node (.node (.node (.node .leaf (some Tryz.f285) .leaf) (some Tryz.f157) (.node .leaf (some Tryz.f413) .leaf)) (some Tryz.f93) (.node (.node .leaf (some Tryz.f349) .leaf) (some Tryz.f221) (.node .leaf none .leaf))) (some Tryz.f61) (.node (.node (.node .leaf (some Tryz.f317) .leaf) (some Tryz.f189) (.node .leaf (some Tryz.f445) .leaf)) (some Tryz.f125) (.node (.node .leaf (some Tryz.f381) .leaf) (some Tryz.f253) (.node .leaf none .leaf)))))
noncomputable def funTlr : T Func := .node funTlrl (some Tryz.f5) funTlrr
noncomputable def funTl : T Func := .node funTll none funTlr
noncomputable def funTrll : T Func := .node (.node (.node (.node (.node (.node (.node .leaf none .leaf) (some Tryz.f256) .leaf) (some Tryz.f128) (.node .leaf (some Tryz.f384) .leaf)) (some Tryz.f64) (.node (.node .leaf (some Tryz.f320) .leaf) (some Tryz.f192) (.node .leaf (some Tryz.f448) .leaf))) (some Tryz.f32) (.node (.node (.node .leaf (some Tryz.f288) .leaf) (some Tryz.f160) (.node .leaf (some Tryz.f416) .leaf)) (some Tryz.f96) (.node (.node .leaf (some Tryz.f352) .leaf) (some Tryz.f224) (.node .leaf none .leaf)))) (some Tryz.f16) (.node (.node (.node (.node .leaf (some Tryz.f272) .leaf) (some Tryz.f144) (.node .leaf none .leaf)) (some Tryz.f80) (.node (.node .leaf (some Tryz.f336) .leaf) (some Tryz.f208) (.node .leaf (some Tryz.f464) .leaf))) (some Tryz.f48) (.node (.node (.node .leaf (some Tryz.f304) .leaf) (some Tryz.f176) (.node .leaf (some Tryz.f432) .leaf)) (some Tryz.f112) (.node (.node .leaf none .leaf) (some Tryz.f240) (.node .leaf (some Tryz.f496) .leaf))))) (some Tryz.f8) (.node (.node (.node (.node (.node .leaf (some Tryz.f264) .leaf) (some Tryz.f136) (.node .leaf (some Tryz.f392) .leaf)) (some Tryz.f72) (.node (.node .leaf (some Tryz.f328) .leaf) (some Tryz.f200) (.node .leaf (some Tryz.f456) .leaf))) (some Tryz.f40) (.node (.node (.node .leaf (some Tryz.f296) .leaf) (some Tryz.f168) (.node .leaf (some Tryz.f424) .leaf)) (some Tryz.f104) (.node (.node .leaf (some Tryz.f360) .leaf) (some Tryz.f232) (.node .leaf none .leaf)))) (some Tryz.f24) (.node (.node (.node (.node .leaf (some Tryz.f280) .leaf) (some Tryz.f152) (.node .leaf (some Tryz.f408) .leaf)) (some Tryz.f88) (.node (.node .leaf (some Tryz.f344) .leaf) (some Tryz.f216) (.node .leaf none .leaf))) (some Tryz.f56) (.node (.node (.node .leaf (some Tryz.f312) .leaf) (some Tryz.f184) (.node .leaf (some Tryz.f440) .leaf)) (some Tryz.f120) (.node (.node .leaf (some Tryz.f376) .leaf) (some Tryz.f248) (.node .leaf (some Tryz.f504) .leaf)))))
noncomputable def funTrlr : T Func := .node (.node (.node (.node (.node (.node .leaf (some Tryz.f260) .leaf) (some Tryz.f132) (.node .leaf (some Tryz.f388) .leaf)) (some Tryz.f68) (.node (.node .leaf (some Tryz.f324) .leaf) (some Tryz.f196) (.node .leaf (some Tryz.f452) .leaf))) (some Tryz.f36) (.node (.node (.node .leaf (some Tryz.f292) .leaf) (some Tryz.f164) (.node .leaf (some Tryz.f420) .leaf)) (some Tryz.f100) (.node (.node .leaf (some Tryz.f356) .leaf) (some Tryz.f228) (.node .leaf none .leaf)))) (some Tryz.f20) (.node (.node (.node (.node .leaf (some Tryz.f276) .leaf) (some Tryz.f148) (.node .leaf (some Tryz.f404) .leaf)) (some Tryz.f84) (.node (.node .leaf (some Tryz.f340) .leaf) (some Tryz.f212) (.node .leaf (some Tryz.f468) .leaf))) (some Tryz.f52) (.node (.node (.node .leaf (some Tryz.f308) .leaf) (some Tryz.f180) (.node .leaf (some Tryz.f436) .leaf)) (some Tryz.f116) (.node (.node .leaf (some Tryz.f372) .leaf) (some Tryz.f244) (.node .leaf (some Tryz.f500) .leaf))))) (some Tryz.f12) (.node (.node (.node (.node (.node .leaf (some Tryz.f268) .leaf) (some Tryz.f140) (.node .leaf (some Tryz.f396) .leaf)) (some Tryz.f76) (.node (.node .leaf (some Tryz.f332) .leaf) (some Tryz.f204) (.node .leaf (some Tryz.f460) .leaf))) (some Tryz.f44) (.node (.node (.node .leaf (some Tryz.f300) .leaf) (some Tryz.f172) (.node .leaf (some Tryz.f428) .leaf)) (some Tryz.f108) (.node (.node .leaf (some Tryz.f364) .leaf) (some Tryz.f236) (.node .leaf none .leaf)))) (some Tryz.f28) (.node (.node (.node (.node .leaf (some Tryz.f284) .leaf) (some Tryz.f156) (.node .leaf (some Tryz.f412) .leaf)) (some Tryz.f92) (.node (.node .leaf (some Tryz.f348) .leaf) (some Tryz.f220) (.node .leaf none .leaf))) (some Tryz.f60) (.node (.node (.node .leaf (some Tryz.f316) .leaf) (some Tryz.f188) (.node .leaf (some Tryz.f444) .leaf)) (some Tryz.f124) (.node (.node .leaf (some Tryz.f380) .leaf) (some Tryz.f252) (.node .leaf none .leaf)))))
noncomputable def funTrl : T Func := .node funTrll (some Tryz.f4) funTrlr
noncomputable def funTrrl : T Func := .node (.node (.node (.node (.node (.node (.node .leaf none .leaf) (some Tryz.f258) .leaf) (some Tryz.f130) (.node .leaf (some Tryz.f386) .leaf)) (some Tryz.f66) (.node (.node .leaf (some Tryz.f322) .leaf) (some Tryz.f194) (.node .leaf (some Tryz.f450) .leaf))) (some Tryz.f34) (.node (.node (.node .leaf (some Tryz.f290) .leaf) (some Tryz.f162) (.node .leaf (some Tryz.f418) .leaf)) (some Tryz.f98) (.node (.node .leaf (some Tryz.f354) .leaf) (some Tryz.f226) (.node .leaf none .leaf)))) (some Tryz.f18) (.node (.node (.node (.node .leaf (some Tryz.f274) .leaf) (some Tryz.f146) (.node .leaf none .leaf)) (some Tryz.f82) (.node (.node .leaf (some Tryz.f338) .leaf) (some Tryz.f210) (.node .leaf (some Tryz.f466) .leaf))) (some Tryz.f50) (.node (.node (.node .leaf (some Tryz.f306) .leaf) (some Tryz.f178) (.node .leaf (some Tryz.f434) .leaf)) (some Tryz.f114) (.node (.node .leaf (some Tryz.f370) .leaf) (some Tryz.f242) (.node .leaf (some Tryz.f498) .leaf))))) (some Tryz.f10) (.node (.node (.node (.node (.node .leaf (some Tryz.f266) .leaf) (some Tryz.f138) (.node .leaf (some Tryz.f394) .leaf)) (some Tryz.f74) (.node (.node .leaf (some Tryz.f330) .leaf) (some Tryz.f202) (.node .leaf (some Tryz.f458) .leaf))) (some Tryz.f42) (.node (.node (.node .leaf (some Tryz.f298) .leaf) (some Tryz.f170) (.node .leaf (some Tryz.f426) .leaf)) (some Tryz.f106) (.node (.node .leaf (some Tryz.f362) .leaf) (some Tryz.f234) (.node .leaf none .leaf)))) (some Tryz.f26) (.node (.node (.node (.node .leaf (some Tryz.f282) .leaf) (some Tryz.f154) (.node .leaf (some Tryz.f410) .leaf)) (some Tryz.f90) (.node (.node .leaf (some Tryz.f346) .leaf) (some Tryz.f218) (.node .leaf none .leaf))) (some Tryz.f58) (.node (.node (.node .leaf (some Tryz.f314) .leaf) (some Tryz.f186) (.node .leaf (some Tryz.f442) .leaf)) (some Tryz.f122) (.node (.node .leaf (some Tryz.f378) .leaf) (some Tryz.f250) (.node .leaf none .leaf)))))
noncomputable def funTrrr : T Func := .node (.node (.node (.node (.node (.node .leaf (some Tryz.f262) .leaf) (some Tryz.f134) (.node .leaf (some Tryz.f390) .leaf)) (some Tryz.f70) (.node (.node .leaf (some Tryz.f326) .leaf) (some Tryz.f198) (.node .leaf (some Tryz.f454) .leaf))) (some Tryz.f38) (.node (.node (.node .leaf (some Tryz.f294) .leaf) (some Tryz.f166) (.node .leaf (some Tryz.f422) .leaf)) (some Tryz.f102) (.node (.node .leaf (some Tryz.f358) .leaf) (some Tryz.f230) (.node .leaf none .leaf)))) (some Tryz.f22) (.node (.node (.node (.node .leaf (some Tryz.f278) .leaf) (some Tryz.f150) (.node .leaf (some Tryz.f406) .leaf)) (some Tryz.f86) (.node (.node .leaf (some Tryz.f342) .leaf) (some Tryz.f214) (.node .leaf none .leaf))) (some Tryz.f54) (.node (.node (.node .leaf (some Tryz.f310) .leaf) (some Tryz.f182) (.node .leaf (some Tryz.f438) .leaf)) (some Tryz.f118) (.node (.node .leaf (some Tryz.f374) .leaf) (some Tryz.f246) (.node .leaf (some Tryz.f502) .leaf))))) (some Tryz.f14) (.node (.node (.node (.node (.node .leaf (some Tryz.f270) .leaf) (some Tryz.f142) (.node .leaf (some Tryz.f398) .leaf)) (some Tryz.f78) (.node (.node .leaf (some Tryz.f334) .leaf) (some Tryz.f206) (.node .leaf (some Tryz.f462) .leaf))) (some Tryz.f46) (.node (.node (.node .leaf (some Tryz.f302) .leaf) (some Tryz.f174) (.node .leaf (some Tryz.f430) .leaf)) (some Tryz.f110) (.node (.node .leaf (some Tryz.f366) .leaf) (some Tryz.f238) (.node .leaf none .leaf)))) (some Tryz.f30) (.node (.node (.node (.node .leaf (some Tryz.f286) .leaf) (some Tryz.f158) (.node .leaf (some Tryz.f414) .leaf)) (some Tryz.f94) (.node (.node .leaf (some Tryz.f350) .leaf) (some Tryz.f222) (.node .leaf none .leaf))) (some Tryz.f62) (.node (.node (.node .leaf (some Tryz.f318) .leaf) (some Tryz.f190) (.node .leaf (some Tryz.f446) .leaf)) (some Tryz.f126) (.node (.node .leaf (some Tryz.f382) .leaf) (some Tryz.f254) (.node .leaf none .leaf)))))
noncomputable def funTrr : T Func := .node funTrrl (some Tryz.f6) funTrrr
noncomputable def funTr : T Func := .node funTrl (some Tryz.f2) funTrr
noncomputable def funT : T Func := .node funTl none funTr
noncomputable def typTlll : T TypeInfo := .node (.node (.node (.node (.node (.node (.node .leaf (some Tryz.t511) .leaf) (some Tryz.t255) .leaf) (some Tryz.t127) (.node .leaf (some Tryz.t383) .leaf)) (some Tryz.t63) (.node (.node (.node .leaf (some Tryz.t575) .leaf) (some Tryz.t319) .leaf) (some Tryz.t191) (.node .leaf (some Tryz.t447) .leaf))) (some Tryz.t31) (.node (.node (.node (.node .leaf (some Tryz.t543) .leaf) (some Tryz.t287) .leaf) (some Tryz.t159) (.node .leaf (some Tryz.t415) .leaf)) (some Tryz.t95) (.node (.node (.node .leaf (some Tryz.t607) .leaf) (some Tryz.t351) .leaf) (some Tryz.t223) (.node .leaf (some Tryz.t479) .leaf)))) (some Tryz.t15) (.node (.node (.node (.node (.node .leaf (some Tryz.t527) .leaf) (some Tryz.t271) .leaf) (some Tryz.t143) (.node .leaf (some Tryz.t399) .leaf)) (some Tryz.t79) (.node (.node (.node .leaf (some Tryz.t591) .leaf) (some Tryz.t335) .leaf) (some Tryz.t207) (.node .leaf (some Tryz.t463) .leaf))) (some Tryz.t47) (.node (.node (.node (.node .leaf (some Tryz.t559) .leaf) (some Tryz.t303) .leaf) (some Tryz.t175) (.node .leaf (some Tryz.t431) .leaf)) (some Tryz.t111) (.node (.node .leaf (some Tryz.t367) .leaf) (some Tryz.t239) (.node .leaf (some Tryz.t495) .leaf))))) (some Tryz.t7) (.node (.node (.node (.node (.node (.node .leaf (some Tryz.t519) .leaf) (some Tryz.t263) .leaf) (some Tryz.t135) (.node .leaf (some Tryz.t391) .leaf)) (some Tryz.t71) (.node (.node (.node .leaf (some Tryz.t583) .leaf) (some Tryz.t327) .leaf) (some Tryz.t199) (.node .leaf (some Tryz.t455) .leaf))) (some Tryz.t39) (.node (.node (.node (.node .leaf (some Tryz.t551) .leaf) (some Tryz.t295) .leaf) (some Tryz.t167) (.node .leaf (some Tryz.t423) .leaf)) (some Tryz.t103) (.node (.node (.node .leaf (some Tryz.t615) .leaf) (some Tryz.t359) .leaf) (some Tryz.t231) (.node .leaf (some Tryz.t487) .leaf)))) (some Tryz.t23) (.node (.node (.node (.node (.node .leaf (some Tryz.t535) .leaf) (some Tryz.t279) .leaf) (some Tryz.t151) (.node .leaf (some Tryz.t407) .leaf)) (some Tryz.t87) (.node (.node (.node .leaf (some Tryz.t599) .leaf) (some Tryz.t343) .leaf) (some Tryz.t215) (.node .leaf (some Tryz.t471) .leaf))) (some Tryz.t55) (.node (.node (.node (.node .leaf (some Tryz.t567) .leaf) (some Tryz.t311) .leaf) (some Tryz.t183) (.node .leaf (some Tryz.t439) .leaf)) (some Tryz.t119) (.node (.node .leaf (some Tryz.t375) .leaf) (some Tryz.t247) (.node .leaf (some Tryz.t503) .leaf)))))
noncomputable def typTllr : T TypeInfo := .node (.node (.node (.node (.node (.node (.node .leaf (some Tryz.t515) .leaf) (some Tryz.t259) .leaf) (some Tryz.t131) (.node .leaf (some Tryz.t387) .leaf)) (some Tryz.t67) (.node (.node (.node .leaf (some Tryz.t579) .leaf) (some Tryz.t323) .leaf) (some Tryz.t195) (.node .leaf (some Tryz.t451) .leaf))) (some Tryz.t35) (.node (.node (.node (.node .leaf (some Tryz.t547) .leaf) (some Tryz.t291) .leaf) (some Tryz.t163) (.node .leaf (some Tryz.t419) .leaf)) (some Tryz.t99) (.node (.node (.node .leaf (some Tryz.t611) .leaf) (some Tryz.t355) .leaf) (some Tryz.t227) (.node .leaf (some Tryz.t483) .leaf)))) (some Tryz.t19) (.node (.node (.node (.node (.node .leaf (some Tryz.t531) .leaf) (some Tryz.t275) .leaf) (some Tryz.t147) (.node .leaf (some Tryz.t403) .leaf)) (some Tryz.t83) (.node (.node (.node .leaf (some Tryz.t595) .leaf) (some Tryz.t339) .leaf) (some Tryz.t211) (.node .leaf (some Tryz.t467) .leaf))) (some Tryz.t51) (.node (.node (.node (.node .leaf (some Tryz.t563) .leaf) (some Tryz.t307) .leaf) (some Tryz.t179) (.node .leaf (some Tryz.t435) .leaf)) (some Tryz.t115) (.node (.node .leaf (some Tryz.t371) .leaf) (some Tryz.t243) (.node .leaf (some Tryz.t499) .leaf))))) (some Tryz.t11) (.node (.node (.node (.node (.node (.node .leaf (some Tryz.t523) .leaf) (some Tryz.t267) .leaf) (some Tryz.t139) (.node .leaf (some Tryz.t395) .leaf)) (some Tryz.t75) (.node (.node (.node .leaf (some Tryz.t587) .leaf) (some Tryz.t331) .leaf) (some Tryz.t203) (.node .leaf (some Tryz.t459) .leaf))) (some Tryz.t43) (.node (.node (.node (.node .leaf (some Tryz.t555) .leaf) (some Tryz.t299) .leaf) (some Tryz.t171) (.node .leaf (some Tryz.t427) .leaf)) (some Tryz.t107) (.node (.node (.node .leaf (some Tryz.t619) .leaf) (some Tryz.t363) .leaf) (some Tryz.t235) (.node .leaf (some Tryz.t491) .leaf)))) (some Tryz.t27) (.node (.node (.node (.node (.node .leaf (some Tryz.t539) .leaf) (some Tryz.t283) .leaf) (some Tryz.t155) (.node .leaf (some Tryz.t411) .leaf)) (some Tryz.t91) (.node (.node (.node .leaf (some Tryz.t603) .leaf) (some Tryz.t347) .leaf) (some Tryz.t219) (.node .leaf (some Tryz.t475) .leaf))) (some Tryz.t59) (.node (.node (.node (.node .leaf (some Tryz.t571) .leaf) (some Tryz.t315) .leaf) (some Tryz.t187) (.node .leaf (some Tryz.t443) .leaf)) (some Tryz.t123) (.node (.node .leaf (some Tryz.t379) .leaf) (some Tryz.t251) (.node .leaf (some Tryz.t507) .leaf)))))
noncomputable def typTll : T TypeInfo := .node typTlll (some Tryz.t3) typTllr
noncomputable def typTlrl : T TypeInfo := .node (.node (.node (.node (.node (.node (.node .leaf (some Tryz.t513) .leaf) (some Tryz.t257) .leaf) (some Tryz.t129) (.node .leaf (some Tryz.t385) .leaf)) (some Tryz.t65) (.node (.node (.node .leaf (some Tryz.t577) .leaf) (some Tryz.t321) .leaf) (some Tryz.t193) (.node .leaf (some Tryz.t449) .leaf))) (some Tryz.t33) (.node (.node (.node (.node .leaf (some Tryz.t545) .leaf) (some Tryz.t289) .leaf) (some Tryz.t161) (.node .leaf (some Tryz.t417) .leaf)) (some Tryz.t97) (.node (.node (.node .leaf (some Tryz.t609) .leaf) (some Tryz.t353) .leaf) (some Tryz.t225) (.node .leaf (some Tryz.t481) .leaf)))) (some Tryz.t17) (.node (.node (.node (.node (.node .leaf (some Tryz.t529) .leaf) (some Tryz.t273) .leaf) (some Tryz.t145) (.node .leaf (some Tryz.t401) .leaf)) (some Tryz.t81) (.node (.node (.node .leaf (some Tryz.t593) .leaf) (some Tryz.t337) .leaf) (some Tryz.t209) (.node .leaf (some Tryz.t465) .leaf))) (some Tryz.t49) (.node (.node (.node (.node .leaf (some Tryz.t561) .leaf) (some Tryz.t305) .leaf) (some Tryz.t177) (.node .leaf (some Tryz.t433) .leaf)) (some Tryz.t113) (.node (.node .leaf (some Tryz.t369) .leaf) (some Tryz.t241) (.node .leaf (some Tryz.t497) .leaf))))) (some Tryz.t9) (.node (.node (.node (.node (.node (.node .leaf (some Tryz.t521) .leaf) (some Tryz.t265) .leaf) (some Tryz.t137) (.node .leaf (some Tryz.t393) .leaf)) (some Tryz.t73) (.node (.node (.node .leaf (some Tryz.t585) .leaf) (some Tryz.t329) .leaf) (some Tryz.t201) (.node .leaf (some Tryz.t457) .leaf))) (some Tryz.t41) (.node (.node (.node (.node .leaf (some Tryz.t553) .leaf) (some Tryz.t297) .leaf) (some Tryz.t169) (.node .leaf (some Tryz.t425) .leaf)) (some Tryz.t105) (.node (.node (.node .leaf (some Tryz.t617) .leaf) (some Tryz.t361) .leaf) (some Tryz.t233) (.node .leaf (some Tryz.t489) .leaf)))) (some Tryz.t25) (.node (.node (.node (.node (.node .leaf (some Tryz.t537) .leaf) (some Tryz.t281) .leaf) (some Tryz.t153) (.node .leaf (some Tryz.t409) .leaf)) (some Tryz.t89) (.node (.node (.node .leaf (some Tryz.t601) .leaf) (some Tryz.t345) .leaf) (some Tryz.t217) (.node .leaf (some Tryz.t473) .leaf))) (some Tryz.t57) (.node (.node (.node (.node .leaf (some Tryz.t569) .leaf) (some Tryz.t313) .leaf) (some Tryz.t185) (.node .leaf (some Tryz.t441) .leaf)) (some Tryz.t121) (.node (.node .leaf (some Tryz.t377) .leaf) (some Tryz.t249) (.node .leaf (some Tryz.t505) .leaf)))))
noncomputable def typTlrr : T TypeInfo := .node (.node (.node (.node (.node (.node (.node .leaf (some Tryz.t517) .leaf) (some Tryz.t261) .leaf) (some Tryz.t133) (.node .leaf (some Tryz.t389) .leaf)) (some Tryz.t69) (.node (.node (.node .leaf (some Tryz.t581) .leaf) (some Tryz.t325) .leaf) (some Tryz.t197) (.node .leaf (some Tryz.t453) .leaf))) (some Tryz.t37) (.node (.node (.node (.node .leaf (some Tryz.t549) .leaf) (some Tryz.t293) .leaf) (some Tryz.t165) (.node .leaf (some Tryz.t421) .leaf)) (some Tryz.t101) (.node (.node (.node .leaf (some Tryz.t613) .leaf) (some Tryz.t357) .leaf) (some Tryz.t229) (.node .leaf (some Tryz.t485) .leaf)))) (some Tryz.t21) (.node (.node (.node (.node (.node .leaf (some Tryz.t533) .leaf) (some Tryz.t277) .leaf) (some Tryz.t149) (.node .leaf (some Tryz.t405) .leaf)) (some Tryz.t85) (.node (.node (.node .leaf (some Tryz.t597) .leaf) (some Tryz.t341) .leaf) (some Tryz.t213) (.node .leaf (some Tryz.t469) .leaf))) (some Tryz.t53) (.node (.node (.node (.node .leaf (some Tryz.t565) .leaf) (some Tryz.t309) .leaf) (some Tryz.t181) (.node .leaf (some Tryz.t437) .leaf)) (some Tryz.t117) (.node (.node .leaf (some Tryz.t373) .leaf) (some Tryz.t245) (.node .leaf (some Tryz.t501) .leaf))))) (some Tryz.t13) (.node (.node (.node (.node (.node (.node .leaf (some Tryz.t525) .leaf) (some Tryz.t269) .leaf) (some Tryz.t141) (.node .leaf (some Tryz.t397) .leaf)) (some Tryz.t77) (.node (.node (.node .leaf (some Tryz.t589) .leaf) (some Tryz.t333) .leaf) (some Tryz.t205) (.node .leaf (some Tryz.t461) .leaf))) (some Tryz.t45) (.node (.node (.node (.node .leaf (some Tryz.t557) .leaf) (some Tryz.t301) .leaf) (some Tryz.t173) (.node .leaf (some Tryz.t429) .leaf)) (some Tryz.t109) (.node (.node (.node .leaf (some Tryz.t621) .leaf) (some Tryz.t365) .leaf) (some Tryz.t237) (.node .leaf (some Tryz.t493) .leaf)))) (some Tryz.t29) (.node (.node (.node (.node (.node .leaf (some Tryz.t541) .leaf) (some Tryz.t285) .leaf) (some Tryz.t157) (.node .leaf (some Tryz.t413) .leaf)) (some Tryz.t93) (.node (.node (.node .leaf (some Tryz.t605) .leaf) (some Tryz.t349) .leaf) (some Tryz.t221) (.node .leaf (some Tryz.t477) .leaf))) (some Tryz.t61) (.node (.node (.node (.node .leaf (some Tryz.t573) .leaf) (some Tryz.t317) .leaf) (some Tryz.t189) (.node .leaf (some Tryz.t445) .leaf)) (some Tryz.t125) (.node (.node .leaf (some Tryz.t381) .leaf) (some Tryz.t253) (.node .leaf (some Tryz.t509) .leaf)))))
noncomputable def typTlr : T TypeInfo := .node typTlrl (some Tryz.t5) typTlrr
noncomputable def typTl : T TypeInfo := .node typTll (some Tryz.t1) typTlr
noncomputable def typTrll : T TypeInfo := .node (.node (.node (.node (.node (.node (.node .leaf (some Tryz.t512) .leaf) (some Tryz.t256) .leaf) (some Tryz.t128) (.node .leaf (some Tryz.t384) .leaf)) (some Tryz.t64) (.node (.node (.node .leaf (some Tryz.t576) .leaf) (some Tryz.t320) .leaf) (some Tryz.t192) (.node .leaf (some Tryz.t448) .leaf))) (some Tryz.t32) (.node (.node (.node (.node .leaf (some Tryz.t544) .leaf) (some Tryz.t288) .leaf) (some Tryz.t160) (.node .leaf (some Tryz.t416) .leaf)) (some Tryz.t96) (.node (.node (.node .leaf (some Tryz.t608) .leaf) (some Tryz.t352) .leaf) (some Tryz.t224) (.node .leaf (some Tryz.t480) .leaf)))) (some Tryz.t16) (.node (.node (.node (.node (.node .leaf (some Tryz.t528) .leaf) (some Tryz.t272) .leaf) (some Tryz.t144) (.node .leaf (some Tryz.t400) .leaf)) (some Tryz.t80) (.node (.node (.node .leaf (some Tryz.t592) .leaf) (some Tryz.t336) .leaf) (some Tryz.t208) (.node .leaf (some Tryz.t464) .leaf))) (some Tryz.t48) (.node (.node (.node (.node .leaf (some Tryz.t560) .leaf) (some Tryz.t304) .leaf) (some Tryz.t176) (.node .leaf (some Tryz.t432) .leaf)) (some Tryz.t112) (.node (.node .leaf (some Tryz.t368) .leaf) (some Tryz.t240) (.node .leaf (some Tryz.t496) .leaf))))) (some Tryz.t8) (.node (.node (.node (.node (.node (.node .leaf (some Tryz.t520) .leaf) (some Tryz.t264) .leaf) (some Tryz.t136) (.node .leaf (some Tryz.t392) .leaf)) (some Tryz.t72) (.node (.node (.node .leaf (some Tryz.t584) .leaf) (some Tryz.t328) .leaf) (some Tryz.t200) (.node .leaf (some Tryz.t456) .leaf))) (some Tryz.t40) (.node (.node (.node (.node .leaf (some Tryz.t552) .leaf) (some Tryz.t296) .leaf) (some Tryz.t168) (.node .leaf (some Tryz.t424) .leaf)) (some Tryz.t104) (.node (.node (.node .leaf (some Tryz.t616) .leaf) (some Tryz.t360) .leaf) (some Tryz.t232) (.node .leaf (some Tryz.t488) .leaf)))) (some Tryz.t24) (.node (.node (.node (.node (.node .leaf (some Tryz.t536) .leaf) (some Tryz.t280) .leaf) (some Tryz.t152) (.node .leaf (some Tryz.t408) .leaf)) (some Tryz.t88) (.node (.node (.node .leaf (some Tryz.t600) .leaf) (some Tryz.t344) .leaf) (some Tryz.t216) (.node .leaf (some Tryz.t472) .leaf))) (some Tryz.t56) (.node (.node (.node (.node .leaf (some Tryz.t568) .leaf) (some Tryz.t312) .leaf) (some Tryz.t184) (.node .leaf (some Tryz.t440) .leaf)) (some Tryz.t120) (.node (.node .leaf (some Tryz.t376) .leaf) (some Tryz.t248) (.node .leaf (some Tryz.t504) .leaf)))))
noncomputable def typTrlr : T TypeInfo := .node (.node (.node (.node (.node (.node (.node .leaf (some Tryz.t516) .leaf) (some Tryz.t260) .leaf) (some Tryz.t132) (.node .leaf (some Tryz.t388) .leaf)) (some Tryz.t68) (.node (.node (.node .leaf (some Tryz.t580) .leaf) (some Tryz.t324) .leaf) (some Tryz.t196) (.node .leaf (some Tryz.t452) .leaf))) (some Tryz.t36) (.node (.node (.node (.node .leaf (some Tryz.t548) .leaf) (some Tryz.t292) .leaf) (some Tryz.t164) (.node .leaf (some Tryz.t420) .leaf)) (some Tryz.t100) (.node (.node (.node .leaf (some Tryz.t612) .leaf) (some Tryz.t356) .leaf) (some Tryz.t228) (.node .leaf (some Tryz.t484) .leaf)))) (some Tryz.t20) (.node (.node (.node (.node (.node .leaf (some Tryz.t532) .leaf) (some Tryz.t276) .leaf) (some Tryz.t148) (.node .leaf (some Tryz.t404) .leaf)) (some Tryz.t84) (.node (.node (.node .leaf (some Tryz.t596) .leaf) (some Tryz.t340) .leaf) (some Tryz.t212) (.node .leaf (some Tryz.t468) .leaf))) (some Tryz.t52) (.node (.node (.node (.node .leaf (some Tryz.t564) .leaf) (some Tryz.t308) .leaf) (some Tryz.t180) (.node .leaf (some Tryz.t436) .leaf)) (some Tryz.t116) (.node (.node .leaf (some Tryz.t372) .leaf) (some Tryz.t244) (.node .leaf (some Tryz.t500) .leaf))))) (some Tryz.t12) (.node (.node (.node (.node (.node (.node .leaf (some Tryz.t524) .leaf) (some Tryz.t268) .leaf) (some Tryz.t140) (.node .leaf (some Tryz.t396) .leaf)) (some Tryz.t76) (.node (.node (.node .leaf (some Tryz.t588) .leaf) (some Tryz.t332) .leaf) (some Tryz.t204) (.node .leaf (some Tryz.t460) .leaf))) (some Tryz.t44) (.node (.node (.node (.node .leaf (some Tryz.t556) .leaf) (some Tryz.t300) .leaf) (some Tryz.t172) (.node .leaf (some Tryz.t428) .leaf)) (some Tryz.t108) (.node (.node (.node .leaf (some Tryz.t620) .leaf) (some Tryz.t364) .leaf) (some Tryz.t236) (.node .leaf (some Tryz.t492) .leaf)))) (some Tryz.t28) (.node (.node (.node (.node (.node .leaf (some Tryz.t540) .leaf) (some Tryz.t284) .leaf) (some Tryz.t156) (.node .leaf (some Tryz.t412) .leaf)) (some Tryz.t92) (.node (.node (.node .leaf (some Tryz.t604) .leaf) (some Tryz.t348) .leaf) (some Tryz.t220) (.node .leaf (some Tryz.t476) .leaf))) (some Tryz.t60) (.node (.node (.node (.node .leaf (some Tryz.t572) .leaf) (some Tryz.t316) .leaf) (some Tryz.t188) (.node .leaf (some Tryz.t444) .leaf)) (some Tryz.t124) (.node (.node .leaf (some Tryz.t380) .leaf) (some Tryz.t252) (.node .leaf (some Tryz.t508) .leaf)))))
noncomputable def typTrl : T TypeInfo := .node typTrll (some Tryz.t4) typTrlr
noncomputable def typTrrl : T TypeInfo := .node (.node (.node (.node (.node (.node (.node .leaf (some Tryz.t514) .leaf) (some Tryz.t258) .leaf) (some Tryz.t130) (.node .leaf (some Tryz.t386) .leaf)) (some Tryz.t66) (.node (.node (.node .leaf (some Tryz.t578) .leaf) (some Tryz.t322) .leaf) (some Tryz.t194) (.node .leaf (some Tryz.t450) .leaf))) (some Tryz.t34) (.node (.node (.node (.node .leaf (some Tryz.t546) .leaf) (some Tryz.t290) .leaf) (some Tryz.t162) (.node .leaf (some Tryz.t418) .leaf)) (some Tryz.t98) (.node (.node (.node .leaf (some Tryz.t610) .leaf) (some Tryz.t354) .leaf) (some Tryz.t226) (.node .leaf (some Tryz.t482) .leaf)))) (some Tryz.t18) (.node (.node (.node (.node (.node .leaf (some Tryz.t530) .leaf) (some Tryz.t274) .leaf) (some Tryz.t146) (.node .leaf (some Tryz.t402) .leaf)) (some Tryz.t82) (.node (.node (.node .leaf (some Tryz.t594) .leaf) (some Tryz.t338) .leaf) (some Tryz.t210) (.node .leaf (some Tryz.t466) .leaf))) (some Tryz.t50) (.node (.node (.node (.node .leaf (some Tryz.t562) .leaf) (some Tryz.t306) .leaf) (some Tryz.t178) (.node .leaf (some Tryz.t434) .leaf)) (some Tryz.t114) (.node (.node .leaf (some Tryz.t370) .leaf) (some Tryz.t242) (.node .leaf (some Tryz.t498) .leaf))))) (some Tryz.t10) (.node (.node (.node (.node (.node (.node .leaf (some Tryz.t522) .leaf) (some Tryz.t266) .leaf) (some Tryz.t138) (.node .leaf (some Tryz.t394) .leaf)) (some Tryz.t74) (.node (.node (.node .leaf (some Tryz.t586) .leaf) (some Tryz.t330) .leaf) (some Tryz.t202) (.node .leaf (some Tryz.t458) .leaf))) (some Tryz.t42) (.node (.node (.node (.node .leaf (some Tryz.t554) .leaf) (some Tryz.t298) .leaf) (some Tryz.t170) (.node .leaf (some Tryz.t426) .leaf)) (some Tryz.t106) (.node (.node (.node .leaf (some Tryz.t618) .leaf) (some Tryz.t362) .leaf) (some Tryz.t234) (.node .leaf (some Tryz.t490) .leaf)))) (some Tryz.t26) (.node (.node (.node (.node (.node .leaf (some Tryz.t538) .leaf) (some Tryz.t282) .leaf) (some Tryz.t154) (.node .leaf (some Tryz.t410) .leaf)) (some Tryz.t90) (.node (.node (.node .leaf (some Tryz.t602) .leaf) (some Tryz.t346) .leaf) (some Tryz.t218) (.node .leaf (some Tryz.t474) .leaf))) (some Tryz.t58) (.node (.node (.node (.node .leaf (some Tryz.t570) .leaf) (some Tryz.t314) .leaf) (some Tryz.t186) (.node .leaf (some Tryz.t442) .leaf)) (some Tryz.t122) (.node (.node .leaf (some Tryz.t378) .leaf) (some Tryz.t250) (.node .leaf (some Tryz.t506) .leaf)))))
noncomputable def typTrrr : T TypeInfo := .node (.node (.node (.node (.node (.node (.node .leaf (some Tryz.t518) .leaf) (some Tryz.t262) .leaf) (some Tryz.t134) (.node .leaf (some Tryz.t390) .leaf)) (some Tryz.t70) (.node (.node (.node .leaf (some Tryz.t582) .leaf) (some Tryz.t326) .leaf) (some Tryz.t198) (.node .leaf (some Tryz.t454) .leaf))) (some Tryz.t38) (.node (.node (.node (.node .leaf (some Tryz.t550) .leaf) (some Tryz.t294) .leaf) (some Tryz.t166) (.node .leaf (some Tryz.t422) .leaf)) (some Tryz.t102) (.node (.node (.node .leaf (some Tryz.t614) .leaf) (some Tryz.t358) .leaf) (some Tryz.t230) (.node .leaf (some Tryz.t486) .leaf)))) (some Tryz.t22) (.node (.node (.node (.node (.node .leaf (some Tryz.t534) .leaf) (some Tryz.t278) .leaf) (some Tryz.t150) (.node .leaf (some Tryz.t406) .leaf)) (some Tryz.t86) (.node (.node (.node .leaf (some Tryz.t598) .leaf) (some Tryz.t342) .leaf) (some Tryz.t214) (.node .leaf (some Tryz.t470) .leaf))) (some Tryz.t54) (.node (.node (.node (.node .leaf (some Tryz.t566) .leaf) (some Tryz.t310) .leaf) (some Tryz.t182) (.node .leaf (some Tryz.t438) .leaf)) (some Tryz.t118) (.node (.node .leaf (some Tryz.t374) .leaf) (some Tryz.t246) (.node .leaf (some Tryz.t502) .leaf))))) (some Tryz.t14) (.node (.node (.node (.node (.node (.node .leaf (some Tryz.t526) .leaf) (some Tryz.t270) .leaf) (some Tryz.t142) (.node .leaf (some Tryz.t398) .leaf)) (some Tryz.t78) (.node (.node (.node .leaf (some Tryz.t590) .leaf) (some Tryz.t334) .leaf) (some Tryz.t206) (.node .leaf (some Tryz.t462) .leaf))) (some Tryz.t46) (.node (.node (.node (.node .leaf (some Tryz.t558) .leaf) (some Tryz.t302) .leaf) (some Tryz.t174) (.node .leaf (some Tryz.t430) .leaf)) (some Tryz.t110) (.node (.node .leaf (some Tryz.t366) .leaf) (some Tryz.t238) (.node .leaf (some Tryz.t494) .leaf)))) (some Tryz.t30) (.node (.node (.node (.node (.node .leaf (some Tryz.t542) .leaf) (some Tryz.t286) .leaf) (some Tryz.t158) (.node .leaf (some Tryz.t414) .leaf)) (some Tryz.t94) (.node (.node (.node .leaf (some Tryz.t606) .leaf) (some Tryz.t350) .leaf) (some Tryz.t222) (.node .leaf (some Tryz.t478) .leaf))) (some Tryz.t62) (.node (.node (.node (.node .leaf (some Tryz.t574) .leaf) (some Tryz.t318) .leaf) (some Tryz.t190) (.node .leaf (some Tryz.t446) .leaf)) (some Tryz.t126) (.node (.node .leaf (some Tryz.t382) .leaf) (some Tryz.t254) (.node .leaf (some Tryz.t510) .leaf)))))
noncomputable def typTrr : T TypeInfo := .node typTrrl (some Tryz.t6) typTrrr
noncomputable def typTr : T TypeInfo := .node typTrl (some Tryz.t2) typTrr
noncomputable def typT : T TypeInfo := .node typTl (some Tryz.t0) typTr
end Go.Proofs.YtdcioacjhpnihaaGreatDoor
namespace Go.Proofs.YtdcioacjhpnihaaGreatDoor
open Go Go.RowKit
noncomputable section

theorem typ_eq : typT = mkO 12 (typL Tryz.prog) := by kernel_rfl
theorem fun_eq : funT = mkO 12 (funL Tryz.prog) := by kernel_rfl
def cfg0 : Cfg := ⟨8, typT, [495, 496, 497, 498]⟩
theorem typ_size : Tryz.prog.types.size = 622 := by kernel_rfl
theorem fun_size : Tryz.prog.funcs.size = 516 := by kernel_rfl
theorem dz0 : Tryz.prog.funcNamed (doesN 0) = some 495 := by kernel_rfl
theorem dz1 : Tryz.prog.funcNamed (doesN 1) = some 496 := by kernel_rfl
theorem dz2 : Tryz.prog.funcNamed (doesN 2) = some 497 := by kernel_rfl
theorem dz3 : Tryz.prog.funcNamed (doesN 3) = some 498 := by kernel_rfl
theorem cfg0_ok : cfg0.ok Tryz.prog := ⟨fun t i h => info_of (typ_ok (n := 12) typ_eq (by rw [typ_size]; decide) h), fun d f h => match d, h with
  | 0, h => by cases h; exact dz0
  | 1, h => by cases h; exact dz1
  | 2, h => by cases h; exact dz2
  | 3, h => by cases h; exact dz3
  | n + 4, h => by cases h⟩
theorem enters0 {f : FuncId} {fn : Func} (h : funT.get f = some fn) : ∀ args w, (callFunc f args).run Tryz.prog w = .ok (.enter f args) w := (fun_ok (n := 12) fun_eq (by rw [fun_size]; decide) h).2
/-! ### deferred calls that do nothing where nothing is thrown -/
theorem ends_tree (n b : Nat) (w : World) : CallsDIn Fence.wide n Tryz.prog 197 #[.pointer (some ⟨b, 0, none⟩)] .returning w fun e u' w' => u' = .returning ∧ (∃ v, e = .returned v) ∧ w' = w := by
  refine (callsDIn_of_wpSIn (R := fun e u' w' => u' = .returning ∧ (e = .returned (.tuple #[]) ∧ w' = w)) Tryz.func197 rfl trivial fun c₀ cs hu => ?_).mono ?_
  · apply wpSIn_seq
    apply wpSIn_region
    simp [wpOpsSIn, go_sem, recoverD, hu, Exit.thenS, Oper.about]
    apply wpSIn_seq
    apply wpSIn_region
    simp [wpOpsSIn, go_sem, Exit.thenS, Oper.about]
    refine wpSIn_cond (t := false) (by simp [Act.eval, Array.replicate]) ?_
    simp only [Bool.false_eq_true, if_false]
    refine wpSIn_of_wpIn rfl (wpIn_skip ?_)
    cases c₀
    simp_all [bodyPostS, results, Tryz.results197]
  · rintro e u' w' ⟨rfl, rfl, rfl⟩
    exact ⟨rfl, ⟨_, rfl⟩, rfl⟩
theorem ends_rename (n b : Nat) (w : World) : CallsDIn Fence.wide n Tryz.prog 50 #[.pointer (some ⟨b, 0, none⟩)] .returning w fun e u' w' => u' = .returning ∧ (∃ v, e = .returned v) ∧ w' = w := by
  refine (callsDIn_of_wpSIn (R := fun e u' w' => u' = .returning ∧ (e = .returned (.tuple #[]) ∧ w' = w)) Tryz.func50 rfl trivial fun c₀ cs hu => ?_).mono ?_
  · apply wpSIn_seq
    apply wpSIn_region
    simp [wpOpsSIn, go_sem, recoverD, hu, Exit.thenS, Oper.about]
    apply wpSIn_seq
    apply wpSIn_region
    simp [wpOpsSIn, go_sem, Exit.thenS, Oper.about]
    refine wpSIn_cond (t := false) (by simp [Act.eval, Array.replicate]) ?_
    simp only [Bool.false_eq_true, if_false]
    refine wpSIn_of_wpIn rfl (wpIn_skip ?_)
    cases c₀
    simp_all [bodyPostS, results, Tryz.results50]
  · rintro e u' w' ⟨rfl, rfl, rfl⟩
    exact ⟨rfl, ⟨_, rfl⟩, rfl⟩
/-! ### functions without a text -/
theorem ext_same : ExtOk Tryz.prog 368 Extern.AbiNoEscape.same := fun args w => run_callFunc_extern Tryz.func368 (by kernel_rfl) (by kernel_rfl) (by kernel_rfl) (by kernel_rfl) args w
theorem ext_idx : ExtOk Tryz.prog 467 Extern.BytealgIndexByte.indexByte := fun args w => run_callFunc_extern Tryz.func467 (by kernel_rfl) (by kernel_rfl) (by kernel_rfl) (by kernel_rfl) args w
end
end Go.Proofs.YtdcioacjhpnihaaGreatDoor
