/- Walk of crc.Sum: the checksum, as the program's own operations reckon it. DERIVED: THE SHELF's CONTRACTS AT THIS DUMP, IN PLAIN WORDS (tools/lay-plain.mjs out of 'YtnnfiicmplkakaaGreatDoorShelf0.lean', which tools/lay-shelf.mjs wrote): THE SAME DECLARATIONS UNDER THE SAME NAMES: 'import', 'namespace', 'open', 'def', 'theorem' AND NOTHING ELSE: no command of the shelf's: FOR A HAND-IN. Each laying: the table of numbers ('.._ren') and one theorem, a field a fact of the dump's own or the kernel's comparison; each contract: ONE APPLICATION. What is taken off the shelf: strings.Repeat of a zero byte, math/bits.TrailingZeros64; bytes.Equal. Walk of (head).put: a head's sector. Walk of wal.take: the head of a sector. -/
import Derived.Test.YtnnfiicmplkakaaGreatDoorQ1
import Derived.Laws.Closers25b
import Derived.Shelf.Spec.TrailingZeros
import Derived.Shelf.Strings.Repeat
import Derived.Ground.NamesProg
import Derived.Ground.Names7Prog
import Derived.Test.YtnnfiicmplkakaaGreatDoorProg
import Derived.Deep.DeepCutAuto
namespace Go.Proofs.YtnnfiicmplkakaaGreatDoor
open Go.RowKit

def halves : List Int := [0, 274646895, 549293790, 820201905, 1098587580, 1361435347, 1640403810, 1905808397, 2197175160, 2460548119, 2722870694, 2987750089, 3280807620, 3553878443, 3811616794, 4084100981]
/-- the table of package crc lies in its variable -/
def Tab (W : World) : Prop := ∀ j, j < 16 → W.cell? ⟨0, j, none⟩ = some (.int .u32 (halves.getD j 0))
def low4 (n : Int) : Int := bits BinOp.and IntKind.u32 n 15
theorem low4_lt {n : Int} (h0 : 0 ≤ n) (h1 : n ≤ 4294967295) : 0 ≤ bits BinOp.and IntKind.u32 n 15 ∧ bits BinOp.and IntKind.u32 n 15 < 16 := by
  have h := bits_and_u32_nat n.toNat 15 (by omega) (by decide)
  have e : ((n.toNat : Nat) : Int) = n := by omega
  have e2 : ((15 : Nat) : Int) = 15 := rfl
  rw [e, e2] at h
  rw [h]
  have : n.toNat &&& 15 ≤ 15 := Nat.and_le_right
  omega
def crc1 (n : Int) : Int := bits BinOp.xor IntKind.u32 (halves.getD (low4 n).toNat 0) (n / 16)
def crcB (n c : Int) : Int := crc1 (crc1 (bits BinOp.xor IntKind.u32 n c))
def crcL (xs : List Int) : Int := xs.foldl crcB 4294967295
def crc (xs : List Int) : Int := bits BinOp.xor IntKind.u32 IntKind.u32.max (crcL xs)
def crcT (m : Int) : Nat → Int
  | 0 => m
  | k + 1 => crc1 (crcT m k)
theorem bits_u32 (op : BinOp) (a b : Int) : 0 ≤ bits op .u32 a b ∧ bits op .u32 a b ≤ 4294967295 := ⟨bits_lo_u32 op a b, bits_hi_u32 op a b⟩
theorem crc1_bound (n : Int) : 0 ≤ crc1 n ∧ crc1 n ≤ 4294967295 := by
  unfold crc1
  exact bits_u32 _ _ _
theorem crcT_bound {m : Int} (h : 0 ≤ m ∧ m ≤ 4294967295) (k : Nat) : 0 ≤ crcT m k ∧ crcT m k ≤ 4294967295 := by
  cases k with
  | zero => exact h
  | succ k => exact crc1_bound _
theorem crcT_step (m : Int) (k : Nat) : crcT m (k + 1) = crc1 (crcT m k) := rfl
theorem crcL_step (xs : List Int) (j : Nat) (h : j < xs.length) : crcL (xs.take (j + 1)) = crcT (bits BinOp.xor IntKind.u32 (crcL (xs.take j)) xs[j]) 2 := by
  unfold crcL
  rw [List.take_succ_eq_append_getElem h, List.foldl_append]
  rfl
theorem crc_bound (xs : List Int) : 0 ≤ crc xs ∧ crc xs ≤ 4294967295 := bits_u32 _ _ _
theorem crcL_bound (xs : List Int) : 0 ≤ crcL xs ∧ crcL xs ≤ 4294967295 := by
  unfold crcL
  suffices h : ∀ n : Int, 0 ≤ n ∧ n ≤ 4294967295 → 0 ≤ xs.foldl crcB n ∧ xs.foldl crcB n ≤ 4294967295 from h _ (by decide)
  induction xs with
  | nil => exact fun n h => h
  | cons x xs ih => exact fun n _ => ih _ (crc1_bound _)
set_option maxHeartbeats 1000000 in
set_option maxRecDepth 20000 in
theorem sum_any (A : Option Addr) (xs : List Int) (c B : Nat) (w : World) (hm : Mem w B A (bv xs)) (hx : Byt xs) (hl : xs.length ≤ 1000000) (ht : Tab w) :
    Calls Tryz.prog 143 #[.slice A xs.length c] w fun e w' => e = .returned (.int .u32 (crc xs)) ∧ w = w' := by
  have HM := hide hm
  have HX := hide hx
  have HT := hide ht
  clear hm hx ht
  go_enter Tryz.func143, Tryz.ntmps143
  go_wp2
  go_loop [3, 8] (fun v i => ∃ j : Nat, j ≤ xs.length ∧ i = .int .i64 j ∧ v = .int .u32 (crcL (xs.take j))) (fun _ i => xs.length - (intOf i).toNat)
  case atStart => exact ⟨0, Nat.zero_le _, rfl, rfl⟩
  case round =>
    obtain ⟨j, hj, rfl, rfl⟩ := hrel
    by_cases hlt : j < xs.length
    · have HB := hide (crcL_bound (xs.take j))
      have HS := hide (crcL_step xs j hlt)
      obtain ⟨b, off, rfl, hb, hc⟩ := byt_at HM.out hlt
      have f1 := hc j hlt
      have hx := HX.out xs[j] (List.getElem_mem hlt)
      clear hc
      generalize xs[j] = y at *
      generalize crcL (xs.take j) = n at *
      go_wp2
      have HB2 := hide (bits_u32 BinOp.xor n y)
      generalize bits BinOp.xor IntKind.u32 n y = m at *
      go_loop [3, 16] (fun v i => ∃ k : Nat, k ≤ 2 ∧ i = .int .i64 k ∧ v = .int .u32 (crcT m k)) (fun _ i => 2 - (intOf i).toNat)
      case atStart => exact ⟨0, Nat.zero_le _, rfl, rfl⟩
      case round =>
        obtain ⟨k, hk, rfl, rfl⟩ := hrel
        by_cases hlt2 : k < 2
        · have HZ := hide (crcT_bound HB2.out k)
          have HZ2 := hide (crcT_step m k)
          generalize crcT m k = z at *
          obtain ⟨l0, l1⟩ := low4_lt HZ.out.1 HZ.out.2
          have fT := HT.out (bits BinOp.and IntKind.u32 z 15).toNat (by omega)
          have z0 := HZ.out.1
          go_wp2
          go_round
          case rel => exact ⟨k + 1, by omega, by go_num, by rw [HZ2.out]; rfl⟩
          case measure => simp [intOf]; omega
        · obtain rfl : k = 2 := by omega
          go_wp2
          go_round
          case rel => exact ⟨j + 1, by omega, by go_num, by rw [HS.out]⟩
          case measure => simp [intOf]; omega
    · obtain rfl : j = xs.length := by omega
      go_wp2
      go_ret
      exact ⟨rfl, rfl⟩
theorem Tab.below {W W' : World} (h : Tab W) (hb : Below W.heap.size W W') : Tab W' := fun j hj => (hb.cell (p := ⟨0, j, none⟩) (cell_lt (h j hj))).trans (h j hj)
theorem Tab.kp {W W' : World} {F : Nat → Prop} (h : Tab W) (hb : Kp F W W') (hn : ¬ F 0) : Tab W' := fun j hj => (hb.cell (p := ⟨0, j, none⟩) (cell_lt (h j hj)) hn).trans (h j hj)
/-- a number's four bytes turned round, as the library reckons it -/
def rev32a (n : Int) : Int := bits BinOp.or IntKind.u32 (bits BinOp.and IntKind.u32 (n / 256) 16711935) (IntKind.u32.wrap (bits BinOp.and IntKind.u32 n 16711935 * 256))
def rev32 (n : Int) : Int := bits BinOp.or IntKind.u32 (rev32a n / 65536) (IntKind.u32.wrap (rev32a n * 65536))
theorem rev_bound (n : Int) : 0 ≤ rev32 n ∧ rev32 n ≤ 4294967295 := bits_u32 _ _ _
set_option maxHeartbeats 1000000 in
theorem rev_any (n : Int) (w : World) : Calls Tryz.prog 146 #[.int .u32 n] w fun e w' => e = .returned (.int .u32 (rev32 n)) ∧ w = w' := by
  go_enter Tryz.func146, Tryz.ntmps146
  go_wp2
  go_ret
  exact ⟨rfl, rfl⟩
end Go.Proofs.YtnnfiicmplkakaaGreatDoor
namespace Go.Proofs
open Go.Shelf
def Tryz.lays105_ren : Go.Shelf.Ren := ⟨fun | 105 => 142 | 212 => 182 | 99 => 183 | 165 => 184 | 166 => 59 | 170 => 185 | 169 => 60 | 263 => 212 | 264 => 213 | 206 => 214 | 240 => 91 | 241 => 215 | 276 => 147 | 277 => 233 | n => n, fun | 9 => 9 | 3 => 3 | 4 => 4 | 20 => 20 | 0 => 0 | 46 => 99 | 109 => 274 | 5 => 5 | 72 => 131 | 76 => 135 | 51 => 168 | 146 => 304 | 53 => 66 | 148 => 306 | 70 => 129 | 37 => 62 | 75 => 134 | 127 => 184 | 164 => 242 | 80 => 63 | n => n, fun | n => n⟩
theorem Tryz.lays105 : Go.Proofs.Lays.n105 Tryz.prog Tryz.lays105_ren := {
  mixed := by kernel_rfl
  f99 := Tryz.func183.trans (congrArg some (by kernel_rfl))
  f105 := Tryz.func142.trans (congrArg some (by kernel_rfl))
  f165 := Tryz.func184.trans (congrArg some (by kernel_rfl))
  f166 := Tryz.func59.trans (congrArg some (by kernel_rfl))
  f169 := Tryz.func60.trans (congrArg some (by kernel_rfl))
  f170 := Tryz.func185.trans (congrArg some (by kernel_rfl))
  f206 := Tryz.func214.trans (congrArg some (by kernel_rfl))
  f212 := Tryz.func182.trans (congrArg some (by kernel_rfl))
  f240 := Tryz.func91.trans (congrArg some (by kernel_rfl))
  f241 := Tryz.func215.trans (congrArg some (by kernel_rfl))
  f263 := Tryz.func212.trans (congrArg some (by kernel_rfl))
  f264 := Tryz.func213.trans (congrArg some (by kernel_rfl))
  f276 := Tryz.func147.trans (congrArg some (by kernel_rfl))
  f277 := Tryz.func233.trans (congrArg some (by kernel_rfl))
  t0 := Tryz.underlying0
  a0 := Tryz.isAgg0
  z0 := Tryz.sizeOf0
  v0 := Tryz.zeroValue0
  t3 := Tryz.underlying3
  a3 := Tryz.isAgg3
  z3 := Tryz.sizeOf3
  v3 := Tryz.zeroValue3
  t4 := Tryz.underlying4
  a4 := Tryz.isAgg4
  z4 := Tryz.sizeOf4
  v4 := Tryz.zeroValue4
  t5 := Tryz.underlying5
  a5 := Tryz.isAgg5
  z5 := Tryz.sizeOf5
  v5 := Tryz.zeroValue5
  t9 := Tryz.underlying9
  a9 := Tryz.isAgg9
  z9 := Tryz.sizeOf9
  v9 := Tryz.zeroValue9
  t20 := Tryz.underlying20
  a20 := Tryz.isAgg20
  z20 := Tryz.sizeOf20
  v20 := Tryz.zeroValue20
  t37 := Tryz.underlying62
  a37 := Tryz.isAgg62
  z37 := Tryz.sizeOf62
  v37 := Tryz.zeroValue62
  t46 := Tryz.underlying99
  a46 := Tryz.isAgg99
  z46 := Tryz.sizeOf99
  v46 := Tryz.zeroValue99
  t51 := Tryz.underlying168
  a51 := Tryz.isAgg168
  z51 := Tryz.sizeOf168
  v51 := Tryz.zeroValue168
  t53 := Tryz.underlying66
  a53 := Tryz.isAgg66
  z53 := Tryz.sizeOf66
  v53 := Tryz.zeroValue66
  t70 := Tryz.underlying129
  a70 := Tryz.isAgg129
  z70 := Tryz.sizeOf129
  v70 := Tryz.zeroValue129
  t72 := Tryz.underlying131
  a72 := Tryz.isAgg131
  z72 := Tryz.sizeOf131
  v72 := Tryz.zeroValue131
  t75 := Tryz.underlying134
  a75 := Tryz.isAgg134
  z75 := Tryz.sizeOf134
  v75 := Tryz.zeroValue134
  t76 := Tryz.underlying135
  a76 := Tryz.isAgg135
  z76 := Tryz.sizeOf135
  v76 := Tryz.zeroValue135
  t109 := Tryz.underlying274
  a109 := Tryz.isAgg274
  z109 := Tryz.sizeOf274
  v109 := Tryz.zeroValue274
  t127 := Tryz.underlying184
  a127 := Tryz.isAgg184
  z127 := Tryz.sizeOf184
  v127 := Tryz.zeroValue184
  t146 := Tryz.underlying304
  a146 := Tryz.isAgg304
  z146 := Tryz.sizeOf304
  v146 := Tryz.zeroValue304
  t148 := Tryz.underlying306
  a148 := Tryz.isAgg306
  z148 := Tryz.sizeOf306
  v148 := Tryz.zeroValue306
  t164 := Tryz.underlying242
  a164 := Tryz.isAgg242
  z164 := Tryz.sizeOf242
  v164 := Tryz.zeroValue242 }
def Tryz.lays29_ren : Go.Shelf.Ren := ⟨fun | 29 => 164 | n => n, fun | 22 => 66 | 3 => 3 | 4 => 4 | 25 => 99 | 54 => 289 | 0 => 0 | 5 => 5 | n => n, fun | 1 => 1 | n => n⟩
theorem Tryz.lays29 : Go.Proofs.Lays7.n29 Tryz.prog Tryz.lays29_ren := {
  mixed := by kernel_rfl
  f29 := Tryz.func164.trans (congrArg some (by kernel_rfl))
  t0 := Tryz.underlying0
  a0 := Tryz.isAgg0
  z0 := Tryz.sizeOf0
  v0 := Tryz.zeroValue0
  i0 := by kernel_rfl
  t3 := Tryz.underlying3
  a3 := Tryz.isAgg3
  z3 := Tryz.sizeOf3
  v3 := Tryz.zeroValue3
  i3 := by kernel_rfl
  t4 := Tryz.underlying4
  a4 := Tryz.isAgg4
  z4 := Tryz.sizeOf4
  v4 := Tryz.zeroValue4
  i4 := by kernel_rfl
  t5 := Tryz.underlying5
  a5 := Tryz.isAgg5
  z5 := Tryz.sizeOf5
  v5 := Tryz.zeroValue5
  i5 := by kernel_rfl
  t22 := Tryz.underlying66
  a22 := Tryz.isAgg66
  z22 := Tryz.sizeOf66
  v22 := Tryz.zeroValue66
  i22 := by kernel_rfl
  t25 := Tryz.underlying99
  a25 := Tryz.isAgg99
  z25 := Tryz.sizeOf99
  v25 := Tryz.zeroValue99
  i25 := by kernel_rfl
  t54 := Tryz.underlying289
  a54 := Tryz.isAgg289
  z54 := Tryz.sizeOf289
  g1 := by kernel_rfl }
end Go.Proofs
namespace Go.Proofs.YtnnfiicmplkakaaGreatDoor
open Go.RowKit Go.Shelf

theorem extra : Builder.Extra Tryz.prog Tryz.lays105_ren := {
  sizeBuilder := by kernel_rfl
  liesBuilder := by kernel_rfl
  t5 := Tryz.lays105.t5
  a5 := Tryz.lays105.a5
  z5 := Tryz.lays105.z5
  v5 := Tryz.lays105.v5
  infoByte := by kernel_rfl
  cellsByte := by kernel_rfl
  sizeByte := by kernel_rfl
  neB5 := by decide }
/-- n zero bytes as a text -/
def zerosT (n : Nat) : ByteArray := ⟨(Go.Lib.repeatL [0] n).toArray⟩
theorem zerosT_bs (n : Nat) : bs (zerosT n) = List.replicate n 0 := by
  unfold bs zerosT
  dsimp only
  induction n with
  | zero => rfl
  | succ n ih =>
    rw [List.replicate_succ, ← ih]
    simp [Go.Lib.repeatL]
theorem zerosT_size (n : Nat) : (zerosT n).size = n := by
  have h := congrArg List.length (zerosT_bs n)
  rw [bs_len, List.length_replicate] at h
  exact h
theorem repeat_any (n : Nat) (w : World) (hn : n ≤ 1000000) :
    Calls Tryz.prog 142 #[.string ⟨#[0]⟩, .int .i64 n] w fun e w' => e = .returned (.string (zerosT n)) ∧ Below w.heap.size w w' := by
  have hs : (⟨#[0]⟩ : ByteArray).size = 1 := rfl
  exact Any.strings_Repeat Tryz.lays105 extra ⟨#[0]⟩ n w (by omega) (by rw [hs]; omega)
set_option maxHeartbeats 1000000 in
theorem equal_any (A1 A2 : Option Addr) (xs ys : List Int) (c1 c2 B1 B2 : Nat) (w : World) (h1 : Mem w B1 A1 (bv xs)) (h2 : Mem w B2 A2 (bv ys)) (hx : Byt xs) (hy : Byt ys) :
    Calls Tryz.prog 87 #[.slice A1 xs.length c1, .slice A2 ys.length c2] w fun e w' => e = .returned (.bool (decide (xs = ys))) ∧ w = w' := by
  have e1 := conv_str h1 c1
  have e2 := conv_str h2 c2
  have HE := hide (show ((strOfNums xs).toList == (strOfNums ys).toList) = decide (xs = ys) by
    rw [toList_eq, toList_eq, Bool.eq_iff_iff, beq_iff_eq, decide_eq_true_eq]
    constructor
    · intro h
      have h3 := congrArg (List.map fun c : UInt8 => (c.toNat : Int)) h
      have h4 : bs (strOfNums xs) = bs (strOfNums ys) := h3
      rwa [bs_nums hx, bs_nums hy] at h4
    · intro h; rw [h])
  clear h1 h2 hx hy
  go_enter Tryz.func87, Tryz.ntmps87
  go_wp2
  go_ret
  exact ⟨ret_bool HE.out, rfl⟩
end Go.Proofs.YtnnfiicmplkakaaGreatDoor
namespace Go.Proofs.YtnnfiicmplkakaaGreatDoor
open Go.RowKit Go.Shelf

/-- a packer that was made since w0 -/
structure PkB (w0 W : World) (bp : Nat) (v : Value) (xs : List Int) : Prop where
  bel : Below w0.heap.size w0 W
  pk : Pk W bp v xs
  hi : ∀ k, pkF bp v k → w0.heap.size ≤ k
section
variable {w0 W W' : World} {bp : Nat} {v : Value} {xs : List Int}
def PkRes (w0 : World) (bp : Nat) (zs : List Int) (e : Ending) (W' : World) : Prop := ∃ v', e = .returned (.pointer (some ⟨bp, 0, none⟩)) ∧ PkB w0 W' bp v' zs
theorem PkB.of_put {zs : List Int} {e : Ending} (h : PkB w0 W bp v xs) (hp : PutRes bp v zs W e W') : PkRes w0 bp zs e W' := by
  obtain ⟨v', he, h1, h2, h3⟩ := hp
  exact ⟨v', he, h.bel.trans (h2.below h.bel.size h.hi), h1, fun k hk => (h3 k hk).elim (h.hi k) (fun h4 => Nat.le_trans h.bel.size h4)⟩
theorem PkB.start (h : Below w0.heap.size w0 W) : PkB w0 (W.alloc (.cells #[.slice none 0 0, .int .i64 0] 213)) W.heap.size (.slice none 0 0) [] :=
  ⟨h.alloc h.size _, Pk.new W, fun k hk => hk.elim (fun e => by rw [e]; exact h.size) (fun e => by cases e)⟩
theorem PkB.next (h : PkB w0 W bp v xs) (hb : Below W.heap.size W W') : PkB w0 W' bp v xs := ⟨h.bel.trans (hb.mono h.bel.size), h.pk.below hb, h.hi⟩
theorem PkB.put (h : PkB w0 W bp v xs) (k : Nat) (n : Int) (hl : xs.length + k ≤ 1000000) (hk : k = 1 ∨ k = 2 ∨ k = 4 ∨ k = 8) (hn0 : 0 ≤ n) (hn1 : n < 2 ^ (8 * k)) :
    Calls Tryz.prog 69 #[.pointer (some ⟨bp, 0, none⟩), .int .i64 k, .int .u64 n] W (PkRes w0 bp (xs ++ Pl.be k n)) := (put_go bp v xs k n W h.pk hl hk hn0 hn1).mono fun _ _ hp => h.of_put hp
theorem PkB.text (h : PkB w0 W bp v xs) (s : ByteArray) (hl : xs.length + s.size ≤ 1000000) :
    Calls Tryz.prog 100 #[.pointer (some ⟨bp, 0, none⟩), .string s] W (PkRes w0 bp (xs ++ bs s)) := (text_any bp v xs s W h.pk hl).mono fun _ _ hp => h.of_put hp
theorem PkB.name (h : PkB w0 W bp v xs) (s : ByteArray) (hl : xs.length + s.size + 1 ≤ 1000000) (hs : s.size < 256) :
    Calls Tryz.prog 141 #[.pointer (some ⟨bp, 0, none⟩), .string s] W (PkRes w0 bp (xs ++ (s.size : Int) :: bs s)) := (name_any bp v xs s W h.pk hl hs).mono fun _ _ hp => h.of_put hp
/-- bytes that are handed back: in a row that is new -/
def NewBytes (w : World) (xs : List Int) (v : Value) (w' : World) : Prop := w'.ownsRow w.heap.size 5 1 v xs.length (bv xs) ∧ Below w.heap.size w w'
theorem PkB.bytes (h : PkB w0 W bp v xs) (hl : xs.length ≤ 1000000) :
    Calls Tryz.prog 70 #[.pointer (some ⟨bp, 0, none⟩)] W fun e W' => ∃ A c, e = .returned (.tuple #[.slice A xs.length c, .int .i64 0]) ∧ PkB w0 W' bp v xs ∧ W'.ownsRow w0.heap.size 5 1 (.slice A xs.length c) xs.length (bv xs) :=
  (bytes_any bp v xs W h.pk hl).mono fun e W' hp => by
    obtain ⟨v', he, ho, hb⟩ := hp
    obtain ⟨A, c, rfl⟩ := owns_slice ho
    exact ⟨A, c, he, h.next hb, owns_base ho fun g hg => Nat.le_trans h.bel.size (ho.lt g hg).1⟩
end
/-- a head's sector, ahead of its checksum -/
def headA (gen first : Int) (sec : Nat) (note : ByteArray) : List Int := [] ++ Pl.be 8 gen ++ Pl.be 8 first ++ Pl.be 2 sec ++ (note.size : Int) :: bs note ++ List.replicate (489 - note.size) 0
def headB (gen first : Int) (sec : Nat) (note : ByteArray) : List Int := headA gen first sec note ++ Pl.be 4 (crc (headA gen first sec note))
theorem headA_len (gen first : Int) (sec : Nat) (note : ByteArray) (h : note.size ≤ 489) : (headA gen first sec note).length = 508 := by
  simp [headA, Pl.be_len, bs_len]
  omega
theorem headB_len (gen first : Int) (sec : Nat) (note : ByteArray) (h : note.size ≤ 489) : (headB gen first sec note).length = 512 := by
  rw [headB, List.length_append, headA_len _ _ _ _ h, Pl.be_len]
theorem zeros_byt (n : Nat) : Byt (List.replicate n 0) := fun x hx => by rw [List.eq_of_mem_replicate hx]; decide
theorem headA_byt (gen first : Int) (sec : Nat) (note : ByteArray) (h : note.size < 256) : Byt (headA gen first sec note) := by
  refine Byt.app (Byt.app (Byt.app (Byt.app (Byt.app (fun x hx => by cases hx) (Pl.be_byt _ _)) (Pl.be_byt _ _)) (Pl.be_byt _ _)) ?_) (zeros_byt _)
  intro x hx
  rcases List.mem_cons.1 hx with rfl | hx
  · omega
  · exact bs_byt note x hx
theorem headB_byt (gen first : Int) (sec : Nat) (note : ByteArray) (h : note.size < 256) : Byt (headB gen first sec note) := Byt.app (headA_byt _ _ _ _ h) (Pl.be_byt _ _)
set_option maxHeartbeats 2000000 in
set_option maxRecDepth 20000 in
theorem headput_any (gen first : Int) (sec : Nat) (note : ByteArray) (W : World) (hg0 : 0 ≤ gen) (hg1 : gen < 18446744073709551616) (hf0 : 0 ≤ first) (hf1 : first < 18446744073709551616) (hs : sec < 65536) (hn : note.size < 256) (ht : Tab W) :
    Calls Tryz.prog 88 #[.agg #[.int .u64 gen, .int .u64 first, .int .i64 sec, .string note]] W fun e W' => ∃ A c, e = .returned (.slice A 512 c) ∧ W'.ownsRow W.heap.size 5 1 (.slice A 512 c) 512 (bv (headB gen first sec note)) ∧ Below W.heap.size W W' := by
  have HG := hide (show 0 ≤ gen ∧ gen < 2 ^ (8 * 8) from ⟨hg0, hg1⟩)
  have HF := hide (show 0 ≤ first ∧ first < 2 ^ (8 * 8) from ⟨hf0, hf1⟩)
  have hw2 : IntKind.u64.wrap (sec : Int) = sec := by rw [IntKind.wrap_u64]; omega
  have HTab := hide ht
  clear hg1 hf1 hg0 hf0 ht
  have hb0 : Below W.heap.size W (W.alloc (.cells #[.int .u64 gen, .int .u64 first, .int .i64 sec, .string note] 84)) := (Below.refl _ _).alloc (Nat.le_refl _) _
  have hbox := Whole.new W [.int .u64 gen, .int .u64 first, .int .i64 sec, .string note] 84
  change Whole (W.alloc (.cells #[.int .u64 gen, .int .u64 first, .int .i64 sec, .string note] 84)) _ _ _ at hbox
  have HB0 := hide hb0
  have HBox := hide hbox
  clear hb0 hbox
  go_enter Tryz.func88, Tryz.ntmps88
  go_wp2_with fail
  generalize W.alloc (.cells #[.int .u64 gen, .int .u64 first, .int .i64 sec, .string note] 84) = wb at *
  have hbl := HBox.out.lt
  have b0 := HBox.out.cell 0
  have b1 := HBox.out.cell 1
  have b2 := HBox.out.cell 2
  have b3 := HBox.out.cell 3
  go_cut [3] (fun s3 wx => ∃ bp v, s3 = .pointer (some ⟨bp, 0, none⟩) ∧ PkB wb wx bp v ([] ++ Pl.be 8 gen ++ Pl.be 8 first ++ Pl.be 2 sec ++ (note.size : Int) :: bs note))
  case first =>
    refine wp_region_held_drew (S := (fun w' => Below wb.heap.size wb w')) (by kernel_rfl) ((Below.refl _ _).drew) (fun hHeld => ?_)
    generalize wb.drew = wd at *
    refine wpAnyH_take (i := 1) (v := ?vq1) rfl (by kernel_rfl) (by kernel_rfl) (by kernel_rfl) (fun _ _ _ h => h) (Or.inl ⟨by rfl, ?hq1⟩) (by assumption) ?rq1
    case hq1 => (intro wq hSw; go_simp; (try with_reducible rfl))
    try simp only [Act.put, List.getElem_toArray, List.getElem_cons_zero, List.getElem_cons_succ, List.setIfInBounds_toArray, List.set_cons_zero, List.set_cons_succ]
    refine wpAnyH_take (i := 2) (v := ?vq2) rfl (by kernel_rfl) (by kernel_rfl) (by kernel_rfl) (fun _ _ _ h => h) (Or.inl ⟨by rfl, ?hq2⟩) (by assumption) ?rq2
    case hq2 => (intro wq hSw; have e := (hSw.cell (p := ⟨W.heap.size, 0, none⟩) hbl).trans b0; go_simp; (try with_reducible rfl))
    try simp only [Act.put, List.getElem_toArray, List.getElem_cons_zero, List.getElem_cons_succ, List.setIfInBounds_toArray, List.set_cons_zero, List.set_cons_succ]
    refine wpAnyH_take (i := 4) (v := ?vq3) rfl (by kernel_rfl) (by kernel_rfl) (by kernel_rfl) (fun _ _ _ h => h) (Or.inl ⟨by rfl, ?hq3⟩) (by assumption) ?rq3
    case hq3 => (intro wq hSw; go_simp; (try with_reducible rfl))
    try simp only [Act.put, List.getElem_toArray, List.getElem_cons_zero, List.getElem_cons_succ, List.setIfInBounds_toArray, List.set_cons_zero, List.set_cons_succ]
    refine wpAnyH_take (i := 5) (v := ?vq4) rfl (by kernel_rfl) (by kernel_rfl) (by kernel_rfl) (fun _ _ _ h => h) (Or.inl ⟨by rfl, ?hq4⟩) (by assumption) ?rq4
    case hq4 => (intro wq hSw; have e := (hSw.cell (p := ⟨W.heap.size, 1, none⟩) hbl).trans b1; go_simp; (try with_reducible rfl))
    try simp only [Act.put, List.getElem_toArray, List.getElem_cons_zero, List.getElem_cons_succ, List.setIfInBounds_toArray, List.set_cons_zero, List.set_cons_succ]
    refine wpAnyH_take (i := 7) (v := ?vq5) rfl (by kernel_rfl) (by kernel_rfl) (by kernel_rfl) (fun _ _ _ h => h) (Or.inl ⟨by rfl, ?hq5⟩) (by assumption) ?rq5
    case hq5 => (intro wq hSw; go_simp; (try with_reducible rfl))
    try simp only [Act.put, List.getElem_toArray, List.getElem_cons_zero, List.getElem_cons_succ, List.setIfInBounds_toArray, List.set_cons_zero, List.set_cons_succ]
    refine wpAnyH_take (i := 8) (v := ?vq6) rfl (by kernel_rfl) (by kernel_rfl) (by kernel_rfl) (fun _ _ _ h => h) (Or.inl ⟨by rfl, ?hq6⟩) (by assumption) ?rq6
    case hq6 => (intro wq hSw; have e := (hSw.cell (p := ⟨W.heap.size, 2, none⟩) hbl).trans b2; go_simp; (try with_reducible rfl))
    try simp only [Act.put, List.getElem_toArray, List.getElem_cons_zero, List.getElem_cons_succ, List.setIfInBounds_toArray, List.set_cons_zero, List.set_cons_succ]
    refine wpAnyH_take (i := 9) (v := ?vq7) rfl (by kernel_rfl) (by kernel_rfl) (by kernel_rfl) (fun _ _ _ h => h) (Or.inl ⟨by rfl, ?hq7⟩) (by assumption) ?rq7
    case hq7 => (intro wq hSw; go_simp; (try with_reducible rfl))
    try simp only [Act.put, List.getElem_toArray, List.getElem_cons_zero, List.getElem_cons_succ, List.setIfInBounds_toArray, List.set_cons_zero, List.set_cons_succ]
    refine wpAnyH_take (i := 11) (v := ?vq8) rfl (by kernel_rfl) (by kernel_rfl) (by kernel_rfl) (fun _ _ _ h => h) (Or.inl ⟨by rfl, ?hq8⟩) (by assumption) ?rq8
    case hq8 => (intro wq hSw; go_simp; (try with_reducible rfl))
    try simp only [Act.put, List.getElem_toArray, List.getElem_cons_zero, List.getElem_cons_succ, List.setIfInBounds_toArray, List.set_cons_zero, List.set_cons_succ]
    refine wpAnyH_take (i := 12) (v := ?vq9) rfl (by kernel_rfl) (by kernel_rfl) (by kernel_rfl) (fun _ _ _ h => h) (Or.inl ⟨by rfl, ?hq9⟩) (by assumption) ?rq9
    case hq9 => (intro wq hSw; have e := (hSw.cell (p := ⟨W.heap.size, 3, none⟩) hbl).trans b3; go_simp; (try with_reducible rfl))
    try simp only [Act.put, List.getElem_toArray, List.getElem_cons_zero, List.getElem_cons_succ, List.setIfInBounds_toArray, List.set_cons_zero, List.set_cons_succ]
    refine wpAnyH_ready (rs := [0]) (by kernel_rfl) (by simp) ?_
    refine AllReadyH.cons (o := _) rfl (fun K hK => ?_) AllReadyH.nil
    go_simp
    refine (new_any _).mono ?_
    rintro e w1 ⟨rfl, rfl⟩
    have HP0 := hide (PkB.start hHeld)
    generalize wd.alloc (.cells #[.slice none 0 0, .int .i64 0] 213) = wp at *
    generalize wd.heap.size = bp at *
    refine hK.out _ _ (HP0.out.bel) (fun hHeld => ?_)
    clear hK K 
    try simp only [Act.put, List.getElem_toArray, List.getElem_cons_zero, List.getElem_cons_succ, List.setIfInBounds_toArray, List.set_cons_zero, List.set_cons_succ]
    refine wpAnyH_ready (rs := [3]) (by kernel_rfl) (by simp) ?_
    refine AllReadyH.cons (o := _) rfl (fun K hK => ?_) AllReadyH.nil
    go_simp
    refine (HP0.out.put 8 gen (by simp) (by omega) HG.out.1 HG.out.2).mono ?_
    rintro e w2 ⟨v2, rfl, hp⟩
    have HP1 := hide hp
    clear hp
    refine hK.out _ _ (HP1.out.bel) (fun hHeld => ?_)
    clear hK K 
    try simp only [Act.put, List.getElem_toArray, List.getElem_cons_zero, List.getElem_cons_succ, List.setIfInBounds_toArray, List.set_cons_zero, List.set_cons_succ]
    refine wpAnyH_ready (rs := [6]) (by kernel_rfl) (by simp) ?_
    refine AllReadyH.cons (o := _) rfl (fun K hK => ?_) AllReadyH.nil
    go_simp
    refine (HP1.out.put 8 first (by simp [Pl.be_len]) (by omega) HF.out.1 HF.out.2).mono ?_
    rintro e w3 ⟨v3, rfl, hp⟩
    have HP2 := hide hp
    clear hp
    refine hK.out _ _ (HP2.out.bel) (fun hHeld => ?_)
    clear hK K 
    try simp only [Act.put, List.getElem_toArray, List.getElem_cons_zero, List.getElem_cons_succ, List.setIfInBounds_toArray, List.set_cons_zero, List.set_cons_succ]
    refine wpAnyH_ready (rs := [10]) (by kernel_rfl) (by simp) ?_
    refine AllReadyH.cons (o := _) rfl (fun K hK => ?_) AllReadyH.nil
    go_simp
    refine (HP2.out.put 2 sec (by simp [Pl.be_len]) (by omega) (by omega) (by omega)).mono ?_
    rintro e w4 ⟨v4, rfl, hp⟩
    have HP3 := hide hp
    clear hp
    refine hK.out _ _ (HP3.out.bel) (fun hHeld => ?_)
    clear hK K 
    try simp only [Act.put, List.getElem_toArray, List.getElem_cons_zero, List.getElem_cons_succ, List.setIfInBounds_toArray, List.set_cons_zero, List.set_cons_succ]
    refine wpAnyH_ready (rs := [13]) (by kernel_rfl) (by simp) ?_
    refine AllReadyH.cons (o := _) rfl (fun K hK => ?_) AllReadyH.nil
    go_simp
    refine (HP3.out.name note (by simp [Pl.be_len]; omega) hn).mono ?_
    rintro e w5 ⟨v5, rfl, hp⟩
    have HP4 := hide hp
    clear hp
    refine hK.out _ _ (HP4.out.bel) (fun hHeld => ?_)
    clear hK K 
    try simp only [Act.put, List.getElem_toArray, List.getElem_cons_zero, List.getElem_cons_succ, List.setIfInBounds_toArray, List.set_cons_zero, List.set_cons_succ]
    refine wpAnyH_take (i := 14) (v := ?vq10) rfl (by kernel_rfl) (by kernel_rfl) (by kernel_rfl) (fun _ _ _ h => h) (Or.inl ⟨by rfl, ?hq10⟩) (by assumption) ?rq10
    case hq10 => (intro wq hSw; go_simp; (try with_reducible rfl))
    try simp only [Act.put, List.getElem_toArray, List.getElem_cons_zero, List.getElem_cons_succ, List.setIfInBounds_toArray, List.set_cons_zero, List.set_cons_succ]
    refine wpAnyH_done (by kernel_rfl) ?_ _
    go_wp2_with fail
    go_meet
    exact ⟨_, _, rfl, HP4.out⟩
  case rest =>
    obtain ⟨bp, v, rfl, hp⟩ := hcut
    have HP := hide hp
    have c3 := (hp.bel.cell (p := ⟨W.heap.size, 3, none⟩) hbl).trans b3
    clear hp b0 b1 b2 b3
    have hx4 : (489 : Int) - (note.size : Int) = ((489 - note.size : Nat) : Int) := by omega
    go_wp2_with fail
    refine (repeat_any (489 - note.size) wc (by omega)).mono ?_
    rintro e w1 ⟨rfl, hb⟩
    have HP1 := hide (HP.out.next hb)
    clear hb c3 HP
    go_wp2_with fail
    refine (HP1.out.text (zerosT (489 - note.size)) (by rw [zerosT_size]; simp [Pl.be_len, bs_len]; omega)).mono ?_
    rintro e w2 ⟨v2, rfl, hp⟩
    rw [zerosT_bs] at hp
    have HP2 := hide (show PkB wb w2 bp v2 (headA gen first sec note) from hp)
    clear hp HP1
    have HL := hide (headA_len gen first sec note (by omega))
    have HBy := hide (headA_byt gen first sec note hn)
    have HE := hide (show headA gen first sec note ++ Pl.be 4 (crc (headA gen first sec note)) = headB gen first sec note from rfl)
    have HCr := hide (crc_bound (headA gen first sec note))
    have HLB := hide (headB_len gen first sec note (by omega))
    generalize headA gen first sec note = hA at *
    generalize hhB : headB gen first sec note = hB at HE HLB
    have HhB := hide hhB
    clear hhB
    go_wp2_with fail
    refine (HP2.out.bytes (by rw [HL.out]; decide)).mono ?_
    rintro e w3 ⟨A3, k3, rfl, hp, ho⟩
    have HP3 := hide hp
    have HM3 := hide (owns_mem ho)
    have HT3 := hide (HTab.out.below (HB0.out.trans (hp.bel.mono HB0.out.size)))
    clear hp ho HP2
    go_wp2_with fail
    refine (sum_any A3 hA k3 _ w3 HM3.out HBy.out (by rw [HL.out]; decide) HT3.out).mono ?_
    rintro e w4 ⟨rfl, rfl⟩
    have hw4 : IntKind.u64.wrap (crc hA) = crc hA := by rw [IntKind.wrap_u64]; have := HCr.out; omega
    generalize crc hA = cr at *
    go_wp2_with fail
    refine (HP3.out.put 4 cr (by rw [HL.out]; decide) (by omega) HCr.out.1 (by have := HCr.out.2; omega)).mono ?_
    rintro e w5 ⟨v5, rfl, hp⟩
    rw [HE.out] at hp
    have HP5 := hide hp
    clear hp HP3
    go_wp2_with fail
    refine (HP5.out.bytes (by rw [HLB.out]; decide)).mono ?_
    rintro e w6 ⟨A6, k6, rfl, hp, ho⟩
    rw [HLB.out] at ho ⊢
    have HP6 := hide hp
    have HO6 := hide (owns_base ho fun g hg => Nat.le_trans HB0.out.size (ho.lt g hg).1)
    have HB6 := hide (HB0.out.trans (hp.bel.mono HB0.out.size))
    clear hp ho
    go_wp2_with fail
    go_ret
    exact ⟨A6, k6, rfl, by rw [HhB.out]; exact HO6.out, HB6.out⟩
end Go.Proofs.YtnnfiicmplkakaaGreatDoor
namespace Go.Proofs.YtnnfiicmplkakaaGreatDoor
open Go.RowKit Go.Shelf

theorem split_head {xs : List Int} (hl : xs.length = 512) (hb : Byt xs) : ∃ (p q r : List Int) (n : Nat) (rest : List Int), xs = p ++ (q ++ (r ++ ((n : Int) :: rest))) ∧ p.length = 8 ∧ q.length = 8 ∧ r.length = 2 ∧ n < 256 ∧ rest.length = 493 := by
  have h18 : 18 < xs.length := by omega
  have hx := hb xs[18] (List.getElem_mem h18)
  refine ⟨xs.take 8, (xs.drop 8).take 8, (xs.drop 16).take 2, xs[18].toNat, xs.drop 19, ?_, by rw [List.length_take]; omega, by rw [List.length_take, List.length_drop]; omega, by rw [List.length_take, List.length_drop]; omega, by omega, by rw [List.length_drop]; omega⟩
  have e : ((xs[18].toNat : Nat) : Int) = xs[18] := by omega
  have e1 : xs.drop 18 = xs[18] :: xs.drop 19 := List.drop_eq_getElem_cons h18
  have e2 : xs.drop 16 = (xs.drop 16).take 2 ++ xs.drop 18 := by
    have := (List.take_append_drop 2 (xs.drop 16)).symm
    rwa [List.drop_drop] at this
  have e3 : xs.drop 8 = (xs.drop 8).take 8 ++ xs.drop 16 := by
    have := (List.take_append_drop 8 (xs.drop 8)).symm
    rwa [List.drop_drop] at this
  rw [e, ← e1, ← e2, ← e3]
  exact (List.take_append_drop 8 xs).symm
/-- an opener on its way, and the result's box ahead of it -/
structure Tk (W Wi : World) (t : TypeId) (zs : List Value) (bo g : Nat) (A : Option Addr) (c : Nat) (rest : List Int) (err : Int) : Prop where
  bel : Below W.heap.size W Wi
  box : Whole Wi W.heap.size t zs
  op : Opn Wi bo g A c rest err
  lo : W.heap.size < bo
  lg : W.heap.size < g
section
variable {W Wi W' : World} {t : TypeId} {zs : List Value} {bo g : Nat} {A : Option Addr} {c : Nat} {rest : List Int} {err : Int}
theorem Tk.of_opn {rest' : List Int} {err' : Int} (h : Tk W Wi t zs bo g A c rest err) (ho : OpnTo Wi bo g rest' err' W') : ∃ A' c', Tk W W' t zs bo g A' c' rest' err' := by
  obtain ⟨A', c', h1, h2⟩ := ho
  exact ⟨A', c', h.bel.trans (h2.below h.bel.size fun i hi => by have := h.lo; unfold OnlyF at hi; omega), h.box.kp h2 (fun e => by have := h.lo; unfold OnlyF at e; omega), h1, h.lo, h.lg⟩
theorem Tk.call (h : Tk W Wi t zs bo g A c rest err) (hb : Below Wi.heap.size Wi W') : Tk W W' t zs bo g A c rest err :=
  ⟨h.bel.trans (hb.mono h.bel.size), h.box.below hb h.box.lt, h.op.kp (F := NoF) (Kp.of_below hb) (fun h => h.elim) (fun h => h.elim), h.lo, h.lg⟩
def TkRes (W : World) (t : TypeId) (zs : List Value) (bo g : Nat) (rest : List Int) (err : Int) (v : Value) (e : Ending) (W' : World) : Prop := ∃ A' c', e = .returned v ∧ Tk W W' t zs bo g A' c' rest err
theorem Tk.take (h : Tk W Wi t zs bo g A c rest 0) (k : Nat) (hk : k = 1 ∨ k = 2 ∨ k = 4 ∨ k = 8) (p q : List Int) (hr : rest = p ++ q) (hp : p.length = k) (hb : Byt rest) :
    Calls Tryz.prog 19 #[.pointer (some ⟨bo, 0, none⟩), .int .i64 k] Wi (TkRes W t zs bo g q 0 (.int .u64 (Pl.un p))) := by
  subst hr
  subst hp
  refine (take_any bo g A c p.length (p ++ q) Wi h.op hk (by simp) hb).mono fun e W' hh => ?_
  rw [List.take_left, List.drop_left] at hh
  obtain ⟨A', c', ht⟩ := h.of_opn hh.2
  exact ⟨A', c', hh.1, ht⟩
theorem Tk.name (n : Nat) (h : Tk W Wi t zs bo g A c ((n : Int) :: rest) 0) (hn : n ≤ rest.length) (h255 : n < 256) (hb : Byt rest) (hl : rest.length ≤ 1000000) :
    Calls Tryz.prog 86 #[.pointer (some ⟨bo, 0, none⟩)] Wi (TkRes W t zs bo g (rest.drop n) 0 (.string (strOfNums (rest.take n)))) := by
  refine (oname_any bo g A c n rest Wi h.op hn h255 hb hl).mono fun e W' hh => ?_
  obtain ⟨A', c', ht⟩ := h.of_opn hh.2
  exact ⟨A', c', hh.1, ht⟩
end
/-- what take answers of a sector -/
def takeV (gen first sec : Int) (note : ByteArray) (b : List Int) : Value :=
  if 64 < note.size then .tuple #[.agg #[.int .u64 0, .int .u64 0, .int .i64 0, .string ⟨#[]⟩], .bool false]
  else .tuple #[.agg #[.int .u64 gen, .int .u64 first, .int .i64 sec, .string note], .bool (decide (headB gen first sec.toNat note = b))]
set_option maxHeartbeats 2000000 in
set_option maxRecDepth 20000 in
theorem waltake_any (p q r rest : List Int) (n : Nat) (A : Option Addr) (c : Nat) (W : World) (hp : p.length = 8) (hq : q.length = 8) (hr : r.length = 2) (hn : n < 256) (hrest : rest.length = 493)
    (hb : Byt (p ++ (q ++ (r ++ ((n : Int) :: rest))))) (hm : Mem W W.heap.size A (bv (p ++ (q ++ (r ++ ((n : Int) :: rest)))))) (ht : Tab W) :
    Calls Tryz.prog 56 #[.slice A 512 c] W fun e W' => e = .returned (takeV (Pl.un p) (Pl.un q) (Pl.un r) (strOfNums (rest.take n)) (p ++ (q ++ (r ++ ((n : Int) :: rest))))) ∧ Below W.heap.size W W' := by
  have hl : (p ++ (q ++ (r ++ ((n : Int) :: rest)))).length = 512 := by simp [hp, hq, hr, hrest]
  have HB1 := hide hb.right
  have HB2 := hide hb.right.right
  have HB3 := hide (show Byt rest from fun x hx => hb.right.right.right x (List.mem_cons_of_mem _ hx))
  have HBy := hide hb
  have HL := hide hl
  have HM := hide hm
  have HTab := hide ht
  have hbz : Below W.heap.size W (W.alloc (.cells #[.int .u64 0, .int .u64 0, .int .i64 0, .string ⟨#[]⟩] 84)) := (Below.refl _ _).alloc (Nat.le_refl _) _
  have hbox := Whole.new W [.int .u64 0, .int .u64 0, .int .i64 0, .string ⟨#[]⟩] 84
  have hz1 : (W.alloc (.cells #[.int .u64 0, .int .u64 0, .int .i64 0, .string ⟨#[]⟩] 84)).heap.size = W.heap.size + 1 := by simp
  change Whole (W.alloc (.cells #[.int .u64 0, .int .u64 0, .int .i64 0, .string ⟨#[]⟩] 84)) _ _ _ at hbox
  have HBz := hide hbz
  have HBox := hide hbox
  obtain ⟨sec, hsec⟩ : ∃ sec : Nat, Pl.un r = sec := ⟨(Pl.un r).toNat, by have := (Pl.un_bound r fun x hx => hb.right.right.left x hx).1; omega⟩
  have hsl : sec < 65536 := by
    have := (Pl.un_bound r fun x hx => hb.right.right.left x hx).2
    rw [hr, hsec] at this
    have e : (256 : Int) ^ 2 = 65536 := by decide
    omega
  have hG := Pl.un_bound p fun x hx => hb.left x hx
  have hF := Pl.un_bound q fun x hx => hb.right.left x hx
  rw [hp] at hG
  rw [hq] at hF
  have hnt : (strOfNums (rest.take n)).size = n := by rw [strOfNums_size, List.length_take]; omega
  generalize hgen : Pl.un p = gen at *
  generalize hfir : Pl.un q = first at *
  generalize hnot : strOfNums (rest.take n) = nt at *
  have HGen := hide hgen
  have HFir := hide hfir
  have HNot := hide hnot
  have HSec := hide hsec
  have HG := hide hG
  have HF := hide hF
  have HNt := hide hnt
  clear hb hl hm ht hbz hbox hG hF hnt hsec hgen hfir hnot
  go_enter Tryz.func56, Tryz.ntmps56
  go_wp2_with fail
  generalize W.alloc (.cells #[.int .u64 0, .int .u64 0, .int .i64 0, .string ⟨#[]⟩] 84) = wz at *
  have hof := of_any A _ c wz ((HM.out.below HBz.out).mono HBz.out.size) (by rw [HL.out]; decide)
  rw [HL.out] at hof
  refine hof.mono ?_
  rintro e w1 ⟨bo, g, A1, c1, rfl, ho, hb, hb1, hb2⟩
  have HK1 := hide (show Tk W w1 84 [.int .u64 0, .int .u64 0, .int .i64 0, .string ⟨#[]⟩] bo g A1 c1 (p ++ (q ++ (r ++ ((n : Int) :: rest)))) 0 from ⟨HBz.out.trans (hb.mono HBz.out.size), HBox.out.below hb HBox.out.lt, ho, by omega, by omega⟩)
  clear ho hb hb1 hb2 hof HBz HBox
  go_wp2_with fail
  refine (HK1.out.take 8 (by simp) p _ rfl hp HBy.out).mono ?_
  rintro e w2 ⟨A2, c2, rfl, hk⟩
  rw [HGen.out]
  have HK2 := hide hk
  clear hk HK1
  go_wp2_with fail
  refine (HK2.out.take 8 (by simp) q _ rfl hq HB1.out).mono ?_
  rintro e w3 ⟨A3, c3, rfl, hk⟩
  rw [HFir.out]
  have HK3 := hide hk
  clear hk HK2
  go_wp2_with fail
  refine (HK3.out.take 2 (by simp) r _ rfl hr HB2.out).mono ?_
  rintro e w4 ⟨A4, c4, rfl, hk⟩
  have HK4 := hide hk
  clear hk HK3
  rw [HSec.out]
  have hw : IntKind.i64.wrap (sec : Int) = sec := IntWalk.i64_in _ (by omega)
  go_wp2_with fail
  refine (HK4.out.name n (by omega) hn HB3.out (by omega)).mono ?_
  rintro e w5 ⟨A5, c5, rfl, hk⟩
  rw [HNot.out]
  have HK5 := hide hk
  clear hk HK4
  go_wp2_with fail
  have hb6 : Below w5.heap.size w5 (w5.alloc (.cells #[.int .u64 gen, .int .u64 first, .int .i64 sec, .string nt] 84)) := (Below.refl _ _).alloc (Nat.le_refl _) _
  have hbx6 := Whole.new w5 [.int .u64 gen, .int .u64 first, .int .i64 sec, .string nt] 84
  change Whole (w5.alloc (.cells #[.int .u64 gen, .int .u64 first, .int .i64 sec, .string nt] 84)) _ _ _ at hbx6
  have hgt : W.heap.size < w5.heap.size := HK5.out.box.lt
  have HK6 := hide (HK5.out.call hb6)
  have HX6 := hide hbx6
  clear HK5 hb6 hbx6
  generalize w5.alloc (.cells #[.int .u64 gen, .int .u64 first, .int .i64 sec, .string nt] 84) = w6 at *
  generalize w5.heap.size = bh at *
  have hne : ¬ W.heap.size = bh := by omega
  have hne2 : ¬ bh = W.heap.size := by omega
  have b0 := HX6.out.cell 0
  have b1 := HX6.out.cell 1
  have b2 := HX6.out.cell 2
  have b3 := HX6.out.cell 3
  have z0 := HK6.out.box.cell 0
  have z1 := HK6.out.box.cell 1
  have z2 := HK6.out.box.cell 2
  have z3 := HK6.out.box.cell 3
  have f0 := HK6.out.box.frozen 0
  have f1 := HK6.out.box.frozen 1
  have f2 := HK6.out.box.frozen 2
  have f3 := HK6.out.box.frozen 3
  refine (err_any bo g A5 c5 _ 0 w6 HK6.out.op).mono ?_
  rintro e w7 ⟨rfl, rfl⟩
  by_cases hbig : 64 < nt.size
  · go_wp2_with fail
    have h1 := (((HK6.out.box.set_ 0 (.int .u64 0)).set_ 1 (.int .u64 0)).set_ 2 (.int .i64 0)).set_ 3 (.string ⟨#[]⟩)
    have HBf := hide ((((HK6.out.bel.setCell (p := ⟨W.heap.size, 0, none⟩) (Nat.le_refl _) (.int .u64 0)).setCell (p := ⟨W.heap.size, 1, none⟩) (Nat.le_refl _) (.int .u64 0)).setCell (p := ⟨W.heap.size, 2, none⟩) (Nat.le_refl _) (.int .i64 0)).setCell (p := ⟨W.heap.size, 3, none⟩) (Nat.le_refl _) (.string ⟨#[]⟩))
    generalize (((w6.setCell ⟨W.heap.size, 0, none⟩ (.int .u64 0)).setCell ⟨W.heap.size, 1, none⟩ (.int .u64 0)).setCell ⟨W.heap.size, 2, none⟩ (.int .i64 0)).setCell ⟨W.heap.size, 3, none⟩ (.string ⟨#[]⟩) = wf at *
    clear z0 z1 z2 z3 f0 f1 f2 f3
    have k0 := h1.cell 0
    have k1 := h1.cell 1
    have k2 := h1.cell 2
    have k3 := h1.cell 3
    exact bodyPost_ret (v := .tuple #[.agg #[.int .u64 0, .int .u64 0, .int .i64 0, .string ⟨#[]⟩], .bool false]) (by simp [results, Tryz.results56, go_sem, k0, k1, k2, k3]) rfl ⟨by rw [takeV, if_pos hbig], HBf.out⟩
  · go_upto_region 5 with fail
    have HBK := hide HK6.out.bel
    have hbl := HX6.out.lt
    have HH := hide (show ∀ W', Below W.heap.size W W' → Tab W' from fun W' h => HTab.out.below h)
    have HXs := hide (show takeV gen first (Pl.un r) nt (p ++ (q ++ (r ++ ((n : Int) :: rest)))) = .tuple #[.agg #[.int .u64 gen, .int .u64 first, .int .i64 sec, .string nt], .bool (decide (headB gen first sec nt = p ++ (q ++ (r ++ ((n : Int) :: rest)))))] by
      rw [takeV, if_neg hbig, HSec.out, Int.toNat_natCast])
    generalize hxs : p ++ (q ++ (r ++ ((n : Int) :: rest))) = xs at *
    have HXe := hide hxs
    clear hxs
    refine wp_region_held_drew (S := (fun w' => Kp (OnlyF W.heap.size) w6 w')) (by kernel_rfl) ((Kp.refl _ _).drew) (fun hHeld => ?_)
    have HBd := hide (HBK.out.trans (((Below.refl w6.heap.size w6).drew).mono HBK.out.size))
    have HKd := hide (HK6.out.call ((Below.refl _ _).drew))
    generalize w6.drew = wd at *
    refine wpAnyH_take (i := 0) (v := ?vq1) rfl (by kernel_rfl) (by kernel_rfl) (by kernel_rfl) (fun _ _ _ h => h) (Or.inl ⟨by rfl, ?hq1⟩) (by assumption) ?rq1
    case hq1 => (intro wq hSw; have e0 := (hSw.cell (p := ⟨bh, 0, none⟩) hbl hne2).trans b0; have e1 := (hSw.cell (p := ⟨bh, 1, none⟩) hbl hne2).trans b1; have e2 := (hSw.cell (p := ⟨bh, 2, none⟩) hbl hne2).trans b2; have e3 := (hSw.cell (p := ⟨bh, 3, none⟩) hbl hne2).trans b3; go_simp; (try with_reducible rfl))
    try simp only [Act.put, List.getElem_toArray, List.getElem_cons_zero, List.setIfInBounds_toArray, List.set_cons_zero, List.set_cons_succ]
    refine wpAnyH_take (i := 1) (v := ?vq2) rfl (by kernel_rfl) (by kernel_rfl) (by kernel_rfl) (fun _ _ _ h => h) (Or.inl ⟨by rfl, ?hq2⟩) (by assumption) ?rq2
    case hq2 => (intro wq hSw; have e0 := (hSw.cell (p := ⟨bh, 0, none⟩) hbl hne2).trans b0; have e1 := (hSw.cell (p := ⟨bh, 1, none⟩) hbl hne2).trans b1; have e2 := (hSw.cell (p := ⟨bh, 2, none⟩) hbl hne2).trans b2; have e3 := (hSw.cell (p := ⟨bh, 3, none⟩) hbl hne2).trans b3; go_simp; (try with_reducible rfl))
    try simp only [Act.put, List.getElem_toArray, List.getElem_cons_zero, List.getElem_cons_succ, List.setIfInBounds_toArray, List.set_cons_zero, List.set_cons_succ]
    refine wpAnyH_take (i := 3) (v := ?vq3) rfl (by kernel_rfl) (by kernel_rfl) (by kernel_rfl) (fun _ _ _ h => h) (Or.inl ⟨by rfl, ?hq3⟩) (by assumption) ?rq3
    case hq3 => (intro wq hSw; go_simp; (try with_reducible rfl))
    try simp only [Act.put, List.getElem_toArray, List.getElem_cons_zero, List.getElem_cons_succ, List.setIfInBounds_toArray, List.set_cons_zero, List.set_cons_succ]
    refine wpAnyH_ready (rs := [2]) (by kernel_rfl) (by simp) ?_
    refine AllReadyH.cons (o := _) rfl (fun K hK => ?_) AllReadyH.nil
    go_simp
    refine (headput_any gen first sec nt wd HG.out.1 (by have := HG.out.2; omega) HF.out.1 (by have := HF.out.2; omega) hsl (by have := HNt.out; omega) (HH.out _ HBd.out)).mono ?_
    rintro e w8 ⟨A8, k8, rfl, ho, hb⟩
    have HO8 := hide (owns_mem ho)
    have HK8 := hide (HKd.out.call hb)
    have HL8 := hide (headB_len gen first sec nt (by have := HNt.out; omega))
    have HY8 := hide (headB_byt gen first sec nt (by have := HNt.out; omega))
    have HKp8 := hide (hHeld.same (Kp.of_below hb))
    clear ho hb HKd
    refine hK.out _ _ (HKp8.out) (fun hHeld => ?_)
    clear hK K 
    try simp only [Act.put, List.getElem_toArray, List.getElem_cons_zero, List.getElem_cons_succ, List.setIfInBounds_toArray, List.set_cons_zero, List.set_cons_succ]
    refine wpAnyH_ready (rs := [4]) (by kernel_rfl) (by simp) ?_
    refine AllReadyH.cons (o := _) rfl (fun K hK => ?_) AllReadyH.nil
    go_simp
    have heq := equal_any A8 A (headB gen first sec nt) xs k8 c _ _ w8 HO8.out (HM.out.below HK8.out.bel) HY8.out HBy.out
    rw [HL8.out, HL.out] at heq
    refine heq.mono ?_
    rintro e w9 ⟨rfl, rfl⟩
    refine hK.out _ _ (HKp8.out) (fun hHeld => ?_)
    clear hK K 
    try simp only [Act.put, List.getElem_toArray, List.getElem_cons_zero, List.getElem_cons_succ, List.setIfInBounds_toArray, List.set_cons_zero, List.set_cons_succ]
    generalize decide (headB gen first sec nt = xs) = bb at *
    refine wpAnyH_ready (rs := [5]) (by kernel_rfl) (by simp) ?_
    refine AllReadyH.cons (o := _) rfl (fun K hK => ?_) ?_
    · skip
      have y0 := HK8.out.box.cell 0
      have x0 := HK8.out.box.frozen 0
      have y1 := HK8.out.box.cell 1
      have x1 := HK8.out.box.frozen 1
      have y2 := HK8.out.box.cell 2
      have x2 := HK8.out.box.frozen 2
      have y3 := HK8.out.box.cell 3
      have x3 := HK8.out.box.frozen 3
      go_simp
      have h1 := (((HK8.out.box.set_ 0 (.int .u64 gen)).set_ 1 (.int .u64 first)).set_ 2 (.int .i64 sec)).set_ 3 (.string nt)
      have HKf := hide ((((HKp8.out.setCell (p := ⟨W.heap.size, 0, none⟩) (.inl rfl) (.int .u64 gen)).setCell (p := ⟨W.heap.size, 1, none⟩) (.inl rfl) (.int .u64 first)).setCell (p := ⟨W.heap.size, 2, none⟩) (.inl rfl) (.int .i64 sec)).setCell (p := ⟨W.heap.size, 3, none⟩) (.inl rfl) (.string nt))
      have HBf := hide ((((HK8.out.bel.setCell (p := ⟨W.heap.size, 0, none⟩) (Nat.le_refl _) (.int .u64 gen)).setCell (p := ⟨W.heap.size, 1, none⟩) (Nat.le_refl _) (.int .u64 first)).setCell (p := ⟨W.heap.size, 2, none⟩) (Nat.le_refl _) (.int .i64 sec)).setCell (p := ⟨W.heap.size, 3, none⟩) (Nat.le_refl _) (.string nt))
      generalize (((w8.setCell ⟨W.heap.size, 0, none⟩ (.int .u64 gen)).setCell ⟨W.heap.size, 1, none⟩ (.int .u64 first)).setCell ⟨W.heap.size, 2, none⟩ (.int .i64 sec)).setCell ⟨W.heap.size, 3, none⟩ (.string nt) = wf at *
      refine hK.out _ _ (HKf.out) (fun hHeld => ?_)
      clear hK K y0 x0 y1 x1 y2 x2 y3 x3
      try simp only [Act.put, List.getElem_toArray, List.getElem_cons_zero, List.getElem_cons_succ, List.setIfInBounds_toArray, List.set_cons_zero, List.set_cons_succ]
      refine wpAnyH_ready (rs := [6]) (by kernel_rfl) (by simp) ?_
      refine AllReadyH.cons (o := _) rfl (fun K hK => ?_) ?_
      · skip
        go_simp
        refine hK.out _ _ (HKf.out) (fun hHeld => ?_)
        clear hK K 
        try simp only [Act.put, List.getElem_toArray, List.getElem_cons_zero, List.getElem_cons_succ, List.setIfInBounds_toArray, List.set_cons_zero, List.set_cons_succ]
        refine wpAnyH_done (by kernel_rfl) ?_ _
        clear z0 z1 z2 z3 f0 f1 f2 f3 b0 b1 b2 b3
        have k0 := h1.cell 0
        have k1 := h1.cell 1
        have k2 := h1.cell 2
        have k3 := h1.cell 3
        go_wp2_with fail
        exact bodyPost_ret (v := .tuple #[.agg #[.int .u64 gen, .int .u64 first, .int .i64 sec, .string nt], .bool bb]) (by simp [results, Tryz.results56, go_sem, k0, k1, k2, k3]) rfl ⟨by rw [HXe.out, HXs.out], HBf.out⟩
      exact AllReadyH.nil
    exact AllReadyH.nil
end Go.Proofs.YtnnfiicmplkakaaGreatDoor
