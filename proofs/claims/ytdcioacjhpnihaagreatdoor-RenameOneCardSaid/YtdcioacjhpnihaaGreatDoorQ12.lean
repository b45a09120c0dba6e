/- Contracts on symbols: a checksum of bytes that nobody knows, bytes turned round, names. Keys of symbolic names, and back: runs for each length, in a memory of their own. Runs that end in an error thrown, and a function whose deferred call takes it up. slices.Insert at rows of strings of which some have bytes that nobody knows. Walks of path.Name, of the reference's Name, of ReverseBytes32. Walk of the reference's Name. The environment of the run, and that all of it holds. What takes up an error that was thrown in a change of names. Keys of symbolic names, and back: the runs for each length; the environment that knows them. All steps on names: done, or an error that was thrown is taken up. -/
import Derived.Test.YtdcioacjhpnihaaGreatDoorQ11
import Derived.Test.YtdcioacjhpnihaaGreatDoorQ7
import Derived.Test.YtdcioacjhpnihaaGreatDoorQ8
import Derived.Below
import Derived.Laws.OwnMore
import Derived.WalkKit
import Derived.OwnWalk
import Derived.Test.YtdcioacjhpnihaaGreatDoorProg
import Derived.Handy
import Derived.WalkMore
import Derived.ProofKit
import Derived.Defers
import Derived.RecoverIn
set_option linter.all false
namespace Go.Proofs.YtdcioacjhpnihaaGreatDoor
open Go Go.RowKit
noncomputable section
/-! ### crc.Sum of a row in which there are bytes that nobody knows -/
def xCrcM (g : Nat) (r : MR) (args : List Value) (s : AS) : Option (Value × AS) := match args with
  | [.slice (some ⟨k, o, _⟩) n _] => match s.h.get k with
    | some (.cells cs _ _) => if (n ≤ 1000000 ∧ 0 < n ∧ o + n ≤ cs.size) ∧ ((cs.toList.drop o).take n).all byteV = true ∧ rowAt s g r = true then some (.chan (some 1), s) else none
    | _ => none
  | _ => none
theorem addr_at (b o i : Nat) : (⟨b, o, none⟩ : Addr).add i = ⟨b, o + i, none⟩ := by
  unfold Addr.add
  split
  · rename_i hz; subst hz; rfl
  · rfl
theorem xCrcM_ok {P : Program} {C : Cfg} {f : FuncId} {args : List Value} {s s' : AS} {v : Value} {g : Nat} {r : MR} (h1 : r.kd = .u32) (h2 : r.ns = hvs) (hg : g < C.G)
    (H : ∀ (A : Option Addr) (xs : List Nat) (c : Nat) (w : World), (∀ x ∈ xs, x < 256) → (0 < xs.length → ∃ b o, A = some ⟨b, o, none⟩ ∧ b < w.heap.size ∧ ∀ (i x : Nat), xs[i]? = some x → w.cell? ⟨b, o + i, none⟩ = some (.int .u8 (.ofNat x))) →
      (∀ (j x : Nat), hvs[j]? = some x → w.cell? ⟨g, j, none⟩ = some (.int .u32 (.ofNat x))) → xs.length ≤ 1000000 → Calls P f #[.slice A xs.length c] w fun e w' => e = .returned (.int .u32 (.ofNat (crcN xs))) ∧ w' = w)
    (HB : ∀ xs : List Nat, (∀ x ∈ xs, x < 256) → crcN xs < 4294967296)
    (h : xCrcM g r args s = some (v, s')) : AnsOk P C f args s v s' := by
  unfold xCrcM at h
  split at h
  rotate_left
  · cases h
  rename_i k o sp n c
  split at h
  rotate_left
  · cases h
  rename_i cs e fr hk
  split at h
  rotate_left
  · cases h
  rename_i hq
  obtain ⟨⟨q1, q2, q3⟩, q4, q5⟩ := hq
  cases h
  intro ι w args' hr ha
  obtain ⟨a, rfl⟩ : ∃ b, args' = [b] := List.length_eq_one_iff.1 ha.1.symm
  have hv := ha.2 0 _ _ rfl rfl
  have hrow := rowAt_ok q5
  have htab : ∀ (j x : Nat), hvs[j]? = some x → w.cell? ⟨g, j, none⟩ = some (.int .u32 (.ofNat x)) := fun j x hx => by
    have := row_cells hr (k := g) (b := g) (c := ⟨ints r.kd r.ns⟩) (e := r.e) (fr := (0, 0)) hrow (hr.glob g hg) (o := 0) (n := 16) (kd := .u32) (ns := hvs) (by
      show 0 + 16 ≤ (ints r.kd r.ns).length
      rw [ints_len, h2]
      decide) (by rw [h1, h2]; rfl) j x hx
    rw [Nat.zero_add] at this
    exact this
  have key : ∀ b c', ι.b k = some b → Calls P f #[.slice (some ⟨b, o, none⟩) n c'] w fun e w' => ∃ ι' v', e = .returned v' ∧ Tr P C.G ι s.mem w ι' s.mem w' ∧ VR ι' (.chan (some 1)) v' := fun b c' hb => by
    obtain ⟨l, _, hl, hlen, hc⟩ := hr.load (k := k) hk hb (o := o) (n := n) q3
    obtain ⟨bs, rfl⟩ := bytes_ok q4 hl
    rw [List.length_map] at hlen
    have hlx : (bs.map (·.toNat)).length = n := by rw [List.length_map, hlen]
    have hx : ∀ x ∈ bs.map (·.toNat), x < 256 := fun x hx => by
      obtain ⟨b, _, rfl⟩ := List.mem_map.1 hx
      exact b.toNat_lt
    have := H (some ⟨b, o, none⟩) (bs.map (·.toNat)) c' w hx (fun _ => ⟨b, o, rfl, hr.lt (k := k) (by show s.h.get k ≠ none; rw [hk]; exact fun e => by cases e) hb, fun i x hi => by
      rw [List.getElem?_map] at hi
      obtain ⟨y, hy, rfl⟩ := Option.map_eq_some_iff.1 hi
      have h3 := hc i (bytV y) (by rw [List.getElem?_map, hy]; rfl)
      rw [addr_at] at h3
      exact h3⟩) htab (by omega)
    rw [hlx] at this
    refine this.mono ?_
    rintro e w' ⟨rfl, rfl⟩
    exact ⟨ι, _, rfl, Tr.refl hr, .unk 1 _ ⟨Int.natCast_nonneg _, by have := HB _ hx; show ((crcN (bs.map (·.toNat)) : Nat) : Int) < 4294967296; omega⟩⟩
  cases hv with
  | slX _ _ hb => exact key _ _ hb
  | slG _ _ hb _ => exact key _ _ hb
  | slE => omega
  | slT => omega
/-! ### bits.ReverseBytes32 of a number that nobody knows -/
def xRev (args : List Value) (s : AS) : Option (Value × AS) := match args with
  | [.chan (some k)] => if k = 1 then some (.chan (some 1), s) else none
  | _ => none
theorem xRev_ok {P : Program} {C : Cfg} {f : FuncId} {args : List Value} {s s' : AS} {v : Value} (H : ∀ (n : Int) (w : World), Calls P f #[.int .u32 n] w fun e w' => ∃ m : Int, e = .returned (.int .u32 m) ∧ (0 ≤ m ∧ m < 4294967296) ∧ w' = w)
    (h : xRev args s = some (v, s')) : AnsOk P C f args s v s' := by
  unfold xRev at h
  split at h
  rotate_left
  · cases h
  split at h
  rotate_left
  · cases h
  rename_i hk
  subst hk
  cases h
  intro ι w args' hr ha
  obtain ⟨a, rfl⟩ : ∃ b, args' = [b] := List.length_eq_one_iff.1 ha.1.symm
  have hv := ha.2 0 _ _ rfl rfl
  cases hv with
  | unk _ n hn =>
    refine (H n w).mono ?_
    rintro e w' ⟨m, rfl, hm, rfl⟩
    exact ⟨ι, _, rfl, Tr.refl hr, .unk 1 m hm⟩
/-! ### names -/
/-- the bytes of a symbolic name, all of them, of a length that the symbol bears -/
def nmix (l : List Value) : Bool := match l with
  | .float .f32 m :: _ => Nat.beq (m % 32) 0 && Nat.ble 1 (m / 32 / 8000) && Nat.ble (m / 32 / 8000) 16 && seqC (m / 32 / 8000) m l
  | _ => false
def xName (args : List Value) (s : AS) : Option (Value × AS) := match args with
  | [.float .f64 c] => if c = 1000002 then some (.bool false, s) else if c = 1000003 then some (.bool true, s) else if c < 1000000 then some (.bool true, s) else none
  | [.func (.method _) cs _] => if nmix cs.toList then some (.bool true, s) else none
  | _ => none
theorem symL_get {ι : Emb} {c i : Nat} (h : i < 17) : (symL ι c)[i]? = some (UInt8.ofNat (ι.x (c % 1000 + i))) := by
  unfold symL
  rw [List.getElem?_map, List.getElem?_range h]
  rfl
theorem sym_name {ι : Emb} {c : Nat} (h : Fact ι c) : nameL (symN ι c) = true := by
  have hl := h.len
  have hn := symN_len h
  unfold nameL
  rw [hn, Bool.and_eq_true, Bool.and_eq_true]
  refine ⟨⟨Nat.ble_eq_true_of_le hl.1, Nat.ble_eq_true_of_le hl.2⟩, List.all_eq_true.2 fun b hb => ?_⟩
  obtain ⟨i, hi⟩ := List.mem_iff_getElem?.1 hb
  have h1 : i < symLen ι c := by
    have := (List.getElem?_eq_some_iff.1 hi).1
    omega
  unfold symN at hi
  rw [List.getElem?_take, if_pos h1, symL_get (by omega)] at hi
  cases hi
  have h2 := h.byte i (by omega)
  have h3 := h.good i h1
  rw [UInt8.toNat_ofNat', Nat.mod_eq_of_lt h2]
  exact h3
theorem seqN_ok {ι : Emb} {c : Nat} (hf : Fact ι c) : ∀ (k i : Nat) (l : List Value) (bs : List UInt8), i + k ≤ 17 → seqC k (c * 32 + i) l = true → VRl ι l (bs.map bytV) → bs = (List.range k).map fun j => UInt8.ofNat (ι.x (c % 1000 + (i + j)))
  | 0, i, [], bs, _, _, h => by
    have a := h.1
    rw [List.length_map] at a
    rw [List.eq_nil_of_length_eq_zero a.symm]
    rfl
  | k + 1, i, v :: r, bs, hi, hs, h => by
    unfold seqC at hs
    rw [Bool.and_eq_true] at hs
    obtain rfl := isCb_ok hs.1
    match bs, h with
    | [], h => exact absurd h.1 (by simp)
    | b :: bs, h =>
      have a1 := h.2 0 _ _ rfl rfl
      obtain ⟨_, _, e⟩ := cb_inv a1
      rw [show (c * 32 + i) / 32 = c by omega, show (c * 32 + i) % 32 = i by omega] at e
      have e2 := bytV_int e
      have hb : b = UInt8.ofNat (ι.x (c % 1000 + i)) := UInt8.toNat_inj.1 (by rw [UInt8.toNat_ofNat']; have := hf.byte i (by omega); omega)
      have ih := seqN_ok hf k (i + 1) r bs (by omega) hs.2 ⟨by simpa using h.1, fun i p q hp hq => h.2 (i + 1) p q (by simpa using hp) (by simpa using hq)⟩
      rw [List.range_succ_eq_map, List.map_cons, List.map_map, hb, ih]
      congr 1
      refine List.map_congr_left fun j _ => ?_
      show _ = UInt8.ofNat (ι.x (c % 1000 + (i + (j + 1))))
      rw [show i + (j + 1) = i + 1 + j by omega]
  | 0, _, _ :: _, _, _, hs, _ => by cases hs
  | _ + 1, _, [], _, _, hs, _ => by cases hs
theorem symN_range {ι : Emb} {c : Nat} (h : Fact ι c) : symN ι c = (List.range (symLen ι c)).map fun j => UInt8.ofNat (ι.x (c % 1000 + j)) := by
  have hl := h.len
  unfold symN symL
  rw [← List.map_take, List.take_range, Nat.min_eq_left (by omega)]
theorem nmix_ok {ι : Emb} {l : List Value} {bs : List UInt8} (h : nmix l = true) (hv : VRl ι l (bs.map bytV)) : ∃ c, Fact ι c ∧ bs = symN ι c := by
  unfold nmix at h
  split at h
  · rename_i m r
    rw [Bool.and_eq_true, Bool.and_eq_true, Bool.and_eq_true] at h
    obtain ⟨⟨⟨a1, a2⟩, a3⟩, a4⟩ := h
    have a1 := Nat.eq_of_beq_eq_true a1
    have a2 := Nat.le_of_ble_eq_true a2
    have a3 := Nat.le_of_ble_eq_true a3
    match bs, hv with
    | [], hv => exact absurd hv.1 (by simp)
    | b :: bs, hv =>
      obtain ⟨hf, _, _⟩ := cb_inv (hv.2 0 _ _ rfl rfl)
      refine ⟨m / 32, hf, ?_⟩
      have := seqN_ok hf (m / 32 / 8000) 0 (.float .f32 m :: r) (b :: bs) (by omega) (by rw [show m / 32 * 32 + 0 = m by omega]; exact a4) hv
      rw [this, symN_range hf, hf.sz (by omega)]
      refine List.map_congr_left fun j _ => ?_
      rw [Nat.zero_add]
  · cases h
theorem xName_ok {P : Program} {C : Cfg} {f : FuncId} {args : List Value} {s s' : AS} {v : Value} (H : ∀ (b : ByteArray) (w : World), b.size ≤ 100 → Calls P f #[.string b] w fun e w' => e = .returned (.bool (nameL b.data.toList)) ∧ Below w.heap.size w w')
    (h : xName args s = some (v, s')) : AnsOk P C f args s v s' := by
  have fin : ∀ (b : ByteArray) (ι : Emb) (w : World) (r : Bool), Rep P C.G ι s.mem w → b.size ≤ 100 → nameL b.data.toList = r → Calls P f #[.string b] w fun e w' => ∃ ι' v', e = .returned v' ∧ Tr P C.G ι s.mem w ι' s.mem w' ∧ VR ι' (.bool r) v' := fun b ι w r hr hb hn => by
    subst hn
    refine (H b w hb).mono ?_
    rintro e w' ⟨rfl, hw⟩
    exact ⟨ι, _, rfl, Tr.below hr hw, .bool _⟩
  have small : ∀ l : List UInt8, nameL l = true → l.length ≤ 100 := fun l hl => by
    unfold nameL at hl
    rw [Bool.and_eq_true, Bool.and_eq_true] at hl
    have := Nat.le_of_ble_eq_true hl.1.2
    omega
  have hsym : ∀ {ι : Emb} {c : Nat} {a : Value}, c < 1000000 → VR ι (.float .f64 c) a → ∃ b, a = .string b ∧ b.size ≤ 100 ∧ nameL b.data.toList = true := fun {ι c a} hc hv => by
    cases hv with
    | any => omega
    | sym hf => exact ⟨_, rfl, small _ (sym_name hf), sym_name hf⟩
  unfold xName at h
  split at h
  · rename_i c
    split at h
    · rename_i hc
      subst hc
      cases h
      intro ι w args' hr ha
      obtain ⟨a, rfl⟩ : ∃ b, args' = [b] := List.length_eq_one_iff.1 ha.1.symm
      have hv := ha.2 0 _ _ rfl rfl
      obtain ⟨b, rfl, h1, h2⟩ : ∃ b, a = .string b ∧ b.size ≤ 100 ∧ nameL b.data.toList = false := by
        generalize hq : (1000002 : Nat) = q at hv
        cases hv with
        | sym hf => have := hf.small; omega
        | any k s hs =>
          obtain rfl : k = 2 := by omega
          exact ⟨s, rfl, hs.1, hs.2⟩
      exact fin b ι w _ hr h1 h2
    · split at h
      · rename_i hc
        subst hc
        cases h
        intro ι w args' hr ha
        obtain ⟨a, rfl⟩ : ∃ b, args' = [b] := List.length_eq_one_iff.1 ha.1.symm
        have hv := ha.2 0 _ _ rfl rfl
        obtain ⟨b, rfl, h2⟩ : ∃ b, a = .string b ∧ nameL b.data.toList = true := by
          generalize hq : (1000003 : Nat) = q at hv
          cases hv with
          | sym hf => have := hf.small; omega
          | any k s hs =>
            obtain rfl : k = 3 := by omega
            exact ⟨s, rfl, hs⟩
        exact fin b ι w _ hr (small _ h2) h2
      · split at h
        · rename_i hc
          cases h
          intro ι w args' hr ha
          obtain ⟨a, rfl⟩ : ∃ b, args' = [b] := List.length_eq_one_iff.1 ha.1.symm
          obtain ⟨b, rfl, h1, h2⟩ := hsym hc (ha.2 0 _ _ rfl rfl)
          exact fin b ι w _ hr h1 h2
        · cases h
  · rename_i m cs fs
    split at h
    · rename_i hn
      cases h
      intro ι w args' hr ha
      obtain ⟨a, rfl⟩ : ∃ b, args' = [b] := List.length_eq_one_iff.1 ha.1.symm
      obtain ⟨rfl, rfl, bs, rfl, hl⟩ := mixL_inv (c := #[]) (ha.2 0 _ _ rfl rfl)
      obtain ⟨c, hf, rfl⟩ := nmix_ok hn hl
      exact fin _ ι w _ hr (small _ (sym_name hf)) (sym_name hf)
    · cases h
  · cases h
end
end Go.Proofs.YtdcioacjhpnihaaGreatDoor
namespace Go.Proofs.YtdcioacjhpnihaaGreatDoor
open Go Go.RowKit
noncomputable section
def emptyS : AS := ⟨.leaf, 100⟩
/-- an embedding for a run in an empty memory: the symbol at 20 is the one that stands at b -/
def lowE (ι : Emb) (b : Nat) : Emb := ⟨fun k => if k < 20 then ι.b k else if k < 37 then some 0 else none, fun k => if 20 ≤ k ∧ k < 37 then ι.x (b + (k - 20)) else ι.x k⟩
theorem low_rep {P : Program} {G : Nat} {ι : Emb} {m : Mem} {w : World} (hr : Rep P G ι m w) (hG : G ≤ 20) (b : Nat) : Rep P G (lowE ι b) emptyS.mem w where
  obj k o h := by
    have h : (T.leaf : T Obj).get k = some o := h
    rw [T.get_leaf] at h
    cases h
  inj j k c h1 := by
    have h1 : (T.leaf : T Obj).get j ≠ none := h1
    exact absurd (T.get_leaf j) h1
  new k hk := by
    have hk : 100 ≤ k := hk
    show (if k < 20 then ι.b k else if k < 37 then some 0 else none) = none
    rw [if_neg (by omega), if_neg (by omega)]
  glob g hg := by
    show (if g < 20 then ι.b g else if g < 37 then some 0 else none) = some g
    rw [if_pos (by omega)]
    exact hr.glob g hg
  inv := ⟨show 15 < 100 by decide, fun c hc => by
    have e : (lowE ι b).b 15 = ι.b 15 := by simp [lowE]
    rw [e] at hc
    refine ⟨fun k hk => ?_, (hr.inv.pin c hc).2⟩
    have hk : (T.leaf : T Obj).get k ≠ none := hk
    exact absurd (T.get_leaf k) hk⟩
theorem small_run {E : Env} (hE : E.Ok) (hG : E.C.G ≤ 20) {N : Nat} {f : FuncId} {args : List Value} {v : Value} {s' : AS} (h : wCall E (wCode E N) f args emptyS = some (v, s')) {ι : Emb} {m : Mem} {w : World} (hr : Rep E.P E.C.G ι m w) (b : Nat) {args' : List Value} (ha : VRl (lowE ι b) args args') :
    Calls E.P f args'.toArray w fun e w' => ∃ κ v', e = .returned v' ∧ (lowE ι b).le κ ∧ VR κ v v' ∧ Below w.heap.size w w' := by
  refine (turbo_ok hE h (low_rep hr hG b) ha).mono ?_
  rintro e w' ⟨κ, v', rfl, ht, hv⟩
  exact ⟨κ, v', rfl, ht.le, hv, ht.os, ht.tape, ht.output, ht.size, fun j hj => ht.keep j hj fun k hk => by
    have hk : (T.leaf : T Obj).get k ≠ none := hk
    exact absurd (T.get_leaf k) hk⟩
/-- the symbol at 20, of so many bytes -/
def lc (l : Nat) : Nat := 7020 + 8000 * l
def cbN (c n : Nat) : List Value := (List.range n).map fun i => Value.float .f32 (c * 32 + i)
def keyV (l : Nat) : List Value := cbN (lc l) l ++ (List.replicate (16 - l) (.int .u8 (.ofNat 0)) ++ [.int .u8 (.ofNat l)])
theorem low_x {ι : Emb} {b i : Nat} (h : i < 17) : (lowE ι b).x (20 + i) = ι.x (b + i) := by
  show (if 20 ≤ 20 + i ∧ 20 + i < 37 then ι.x (b + (20 + i - 20)) else ι.x (20 + i)) = _
  rw [if_pos (by omega), show 20 + i - 20 = i by omega]
theorem lc_mod {l : Nat} : lc l % 1000 = 20 := by unfold lc; omega
theorem low_symL {ι : Emb} {c l : Nat} : symL (lowE ι (c % 1000)) (lc l) = symL ι c := by
  unfold symL
  refine List.map_congr_left fun i hi => ?_
  rw [lc_mod, low_x (List.mem_range.1 hi)]
theorem low_len {ι : Emb} {c l : Nat} : symLen (lowE ι (c % 1000)) (lc l) = symLen ι c := by
  unfold symLen
  rw [lc_mod, low_x (by decide)]
theorem low_symN {ι : Emb} {c l : Nat} : symN (lowE ι (c % 1000)) (lc l) = symN ι c := by
  unfold symN
  rw [low_symL, low_len]
theorem low_fact {ι : Emb} {c : Nat} (h : Fact ι c) : Fact (lowE ι (c % 1000)) (lc (symLen ι c)) := by
  have hl := h.len
  refine ⟨by unfold lc; omega, fun i hi => ⟨0, ?_⟩, fun i hi => ?_, by rw [low_len]; exact hl, fun i hi => ?_, fun i h1 h2 => ?_, fun n hn => by rw [low_symN]; exact h.ne n hn, fun n b hn => ?_, fun _ => ?_⟩
  · rw [lc_mod]
    show (if 20 + i < 20 then ι.b (20 + i) else if 20 + i < 37 then some 0 else none) = some 0
    rw [if_neg (by omega), if_pos (by omega)]
  · rw [lc_mod, low_x hi]
    exact h.byte i hi
  · rw [low_len] at hi
    rw [lc_mod, low_x (by omega)]
    exact h.good i hi
  · rw [low_len] at h1
    rw [lc_mod, low_x (by omega)]
    exact h.zero i h1 h2
  · rw [show lc (symLen ι c) / 1000 % 8 = 7 by unfold lc; omega] at hn
    cases hn
  · rw [low_len]
    unfold lc
    omega
theorem cbN_get {c n i : Nat} (h : i < n) : (cbN c n)[i]? = some (.float .f32 (c * 32 + i)) := by
  unfold cbN
  rw [List.getElem?_map, List.getElem?_range h]
  rfl
theorem cbN_len {c n : Nat} : (cbN c n).length = n := by simp [cbN]
theorem u8_val {n : Nat} (h : n < 256) : bytV (UInt8.ofNat n) = .int .u8 (n : Int) := congrArg (Value.int .u8) (u8_of h)
theorem symN_cb {κ : Emb} {c : Nat} (h : Fact κ c) : VRl κ (cbN c (symLen κ c)) ((symN κ c).map bytV) := by
  have hl := h.len
  refine ⟨by rw [cbN_len, List.length_map, symN_len h], fun i x y hx hy => ?_⟩
  have hi : i < symLen κ c := by
    have := (List.getElem?_eq_some_iff.1 hx).1
    rwa [cbN_len] at this
  rw [cbN_get hi] at hx
  cases hx
  rw [symN_range h, List.map_map, List.getElem?_map, List.getElem?_range hi] at hy
  cases hy
  show VR κ _ (bytV (UInt8.ofNat _))
  rw [u8_val (h.byte i (by omega))]
  exact .cb h (by omega)
theorem symL_cb {κ : Emb} {c : Nat} (h : Fact κ c) : VRl κ (cbN c 17) ((symL κ c).map bytV) := by
  refine ⟨by rw [cbN_len, List.length_map]; simp [symL], fun i x y hx hy => ?_⟩
  have hi : i < 17 := by
    have := (List.getElem?_eq_some_iff.1 hx).1
    rwa [cbN_len] at this
  rw [cbN_get hi] at hx
  cases hx
  rw [List.getElem?_map, symL_get hi] at hy
  cases hy
  rw [u8_val (h.byte i hi)]
  exact .cb h hi
theorem keyV_get {l i : Nat} (hl : l ≤ 16) : (i < l → (keyV l)[i]? = some (.float .f32 (lc l * 32 + i))) ∧ (l ≤ i → i < 16 → (keyV l)[i]? = some (.int .u8 0)) ∧ (keyV l)[16]? = some (.int .u8 (l : Int)) := by
  unfold keyV
  refine ⟨fun h => ?_, fun h1 h2 => ?_, ?_⟩
  · rw [List.getElem?_append_left (by rw [cbN_len]; exact h), cbN_get h]
  · rw [List.getElem?_append_right (by rw [cbN_len]; exact h1), cbN_len, List.getElem?_append_left (by rw [List.length_replicate]; omega), List.getElem?_replicate, if_pos (by omega)]
    rfl
  · rw [List.getElem?_append_right (by rw [cbN_len]; exact hl), cbN_len, List.getElem?_append_right (by rw [List.length_replicate]; omega), List.length_replicate, show 16 - l - (16 - l) = 0 by omega]
    rfl
theorem keyV_len {l : Nat} (hl : l ≤ 16) : (keyV l).length = 17 := by
  unfold keyV
  rw [List.length_append, List.length_append, cbN_len, List.length_replicate, List.length_singleton]
  omega
/-- the key, as a row of the symbol's own bytes, zeros and the length -/
theorem keyV_symL {κ : Emb} {l : Nat} (h : Fact κ (lc l)) (hl : symLen κ (lc l) = l) : VRl κ (keyV l) ((symL κ (lc l)).map bytV) := by
  have h0 := h.len
  rw [hl] at h0
  refine ⟨by rw [keyV_len h0.2, List.length_map]; simp [symL], fun i x y hx hy => ?_⟩
  have hi : i < 17 := by
    have := (List.getElem?_eq_some_iff.1 hx).1
    rwa [keyV_len h0.2] at this
  rw [List.getElem?_map, symL_get hi] at hy
  cases hy
  rw [u8_val (h.byte i hi)]
  obtain ⟨k1, k2, k3⟩ := keyV_get (i := i) h0.2
  by_cases e1 : i < l
  · rw [k1 e1] at hx
    cases hx
    exact .cb h hi
  · by_cases e2 : i < 16
    · rw [k2 (by omega) e2] at hx
      cases hx
      rw [h.zero i (by omega) e2]
      exact .int _ _
    · obtain rfl : i = 16 := by omega
      rw [k3] at hx
      cases hx
      have : κ.x (lc l % 1000 + 16) = l := hl
      rw [this]
      exact .int _ _
/-- rows of known bytes that stand for two rows are those rows -/
theorem VRl.same {κ : Emb} {l : List Value} {bs ds : List UInt8} (hb : l.all (fun v => match v with | .int .u8 _ => true | .float .f32 _ => true | _ => false) = true) (h : VRl κ l (bs.map bytV)) (k : VRl κ l (ds.map bytV)) : bs = ds := by
  induction l generalizing bs ds with
  | nil =>
    have a := h.1
    have b := k.1
    rw [List.length_map] at a b
    have e1 : bs = [] := List.eq_nil_of_length_eq_zero (by simpa using a.symm)
    have e2 : ds = [] := List.eq_nil_of_length_eq_zero (by simpa using b.symm)
    rw [e1, e2]
  | cons v l ih =>
    match bs, ds, h, k with
    | [], _, h, _ => exact absurd h.1 (by simp)
    | _ :: _, [], _, k => exact absurd k.1 (by simp)
    | b :: bs, d :: ds, h, k =>
      rw [List.all_cons, Bool.and_eq_true] at hb
      have e1 := h.2 0 _ _ rfl rfl
      have e2 := k.2 0 _ _ rfl rfl
      have hbd : b = d := by
        have hb1 := hb.1
        split at hb1
        · generalize hx : bytV b = x at e1
          generalize hy : bytV d = y at e2
          cases e1
          cases e2
          exact UInt8.toNat_inj.1 (by have h1 := bytV_int hx; have h2 := bytV_int hy; omega)
        · have h1 := bytV_int (cb_inv e1).2.2
          have h2 := bytV_int (cb_inv e2).2.2
          exact UInt8.toNat_inj.1 (by omega)
        · cases hb1
      have e3 : bs = ds := ih hb.2 ⟨by simpa using h.1, fun i p q hp hq => h.2 (i + 1) p q (by simpa using hp) (by simpa using hq)⟩ ⟨by simpa using k.1, fun i p q hp hq => k.2 (i + 1) p q (by simpa using hp) (by simpa using hq)⟩
      rw [hbd, e3]
/-! ### a key -/
def mixV (l : List Value) : Value := .func (.method "") ⟨l⟩ #[]
def keyB (E : Env) (f : FuncId) (l : Nat) : Bool := Option.rec (motive := fun _ => Bool) false (fun r => veqA r.1 (mixV (keyV l))) (wCall E (wCode E 1000000) f [mixV (cbN (lc l) l)] emptyS)
def xKey (args : List Value) (s : AS) : Option (Value × AS) := match args with
  | [.float .f64 c] => if c < 1000000 then some (mixV (cbN c 17), s) else none
  | _ => none
theorem keyV_all {l : Nat} : (keyV l).all (fun v => match v with | .int .u8 _ => true | .float .f32 _ => true | _ => false) = true := by
  unfold keyV
  rw [List.all_append, List.all_append, Bool.and_eq_true, Bool.and_eq_true]
  refine ⟨List.all_eq_true.2 fun v hv => ?_, List.all_eq_true.2 fun v hv => ?_, rfl⟩
  · unfold cbN at hv
    obtain ⟨i, _, rfl⟩ := List.mem_map.1 hv
    rfl
  · rw [(List.mem_replicate.1 hv).2]
theorem xKey_ok {E : Env} (hE : E.Ok) (hG : E.C.G ≤ 20) {f : FuncId} (hk : ∀ l, 1 ≤ l → l ≤ 16 → keyB E f l = true) {args : List Value} {s s' : AS} {v : Value} (h : xKey args s = some (v, s')) : AnsOk E.P E.C f args s v s' := by
  unfold xKey at h
  split at h
  rotate_left
  · cases h
  rename_i c
  split at h
  rotate_left
  · cases h
  rename_i hc
  cases h
  intro ι w args' hr ha
  obtain ⟨a, rfl⟩ : ∃ b, args' = [b] := List.length_eq_one_iff.1 ha.1.symm
  have hv := ha.2 0 _ _ rfl rfl
  obtain ⟨hf, rfl⟩ : Fact ι c ∧ a = .string (bsB (symN ι c)) := by
    cases hv with
    | any => omega
    | sym hf => exact ⟨hf, rfl⟩
  have hl := hf.len
  have hkb := hk _ hl.1 hl.2
  unfold keyB at hkb
  cases hrun : wCall E (wCode E 1000000) f [mixV (cbN (lc (symLen ι c)) (symLen ι c))] emptyS with
  | none => rw [hrun] at hkb; cases hkb
  | some r =>
    obtain ⟨u, s1⟩ := r
    rw [hrun] at hkb
    have e := veq_ok 8 _ _ (veqA_ok hkb)
    have e : u = mixV (keyV (symLen ι c)) := e
    subst e
    have hf2 := low_fact hf
    refine (small_run hE hG hrun hr (c % 1000) (args' := [.string (bsB (symN ι c))]) ?_).mono ?_
    · refine VRl.cons ?_ VRl.nil
      have := symN_cb hf2
      rw [low_len, low_symN] at this
      exact VR.mixL this
    · rintro e w' ⟨κ, v', rfl, hle, hv', hw⟩
      obtain ⟨_, _, bs, rfl, hbs⟩ := mixL_inv (c := #[]) hv'
      obtain ⟨g1, g2, g3⟩ := hf2.mono hle
      have hlen : symLen κ (lc (symLen ι c)) = symLen ι c := (g3 16 (by decide)).trans low_len
      have h2 := keyV_symL g1 hlen
      have h3 : bs = symL κ (lc (symLen ι c)) := VRl.same keyV_all hbs h2
      have h4 : symL κ (lc (symLen ι c)) = symL ι c := by
        have h5 : symL κ (lc (symLen ι c)) = symL (lowE ι (c % 1000)) (lc (symLen ι c)) := by
          unfold symL
          refine List.map_congr_left fun i hi => ?_
          rw [g3 i (List.mem_range.1 hi)]
        exact h5.trans low_symL
      rw [h3, h4]
      exact ⟨ι, _, rfl, Tr.below hr hw, VR.mixL (symL_cb hf)⟩
/-! ### and back -/
def nofB (E : Env) (f : FuncId) (l : Nat) : Bool := Option.rec (motive := fun _ => Bool) false (fun r => veqA r.1 (.tuple ⟨[mixV (cbN (lc l) l), .int .i64 (.ofNat 0)]⟩)) (wCall E (wCode E 1000000) f [mixV (keyV l)] emptyS)
def xNof (args : List Value) (s : AS) : Option (Value × AS) := match args with
  | [.func (.method _) cs _] => match kcode cs.toList with
    | some c => some (.tuple ⟨[.float .f64 c, .int .i64 (.ofNat 0)]⟩, s)
    | none => none
  | _ => none
theorem xNof_ok {E : Env} (hE : E.Ok) (hG : E.C.G ≤ 20) {f : FuncId} (hk : ∀ l, 1 ≤ l → l ≤ 16 → nofB E f l = true) {args : List Value} {s s' : AS} {v : Value} (h : xNof args s = some (v, s')) : AnsOk E.P E.C f args s v s' := by
  unfold xNof at h
  split at h
  rotate_left
  · cases h
  rename_i m cs fs
  split at h
  rotate_left
  · cases h
  rename_i c hc
  cases h
  intro ι w args' hr ha
  obtain ⟨a, rfl⟩ : ∃ b, args' = [b] := List.length_eq_one_iff.1 ha.1.symm
  obtain ⟨rfl, rfl, bs, rfl, hl0⟩ := mixL_inv (c := #[]) (ha.2 0 _ _ rfl rfl)
  obtain ⟨hf, rfl⟩ := kcode_ok hc hl0
  have hl := hf.len
  have hkb := hk _ hl.1 hl.2
  unfold nofB at hkb
  cases hrun : wCall E (wCode E 1000000) f [mixV (keyV (symLen ι c))] emptyS with
  | none => rw [hrun] at hkb; cases hkb
  | some r =>
    obtain ⟨u, s1⟩ := r
    rw [hrun] at hkb
    have e := veq_ok 8 _ _ (veqA_ok hkb)
    have e : u = .tuple ⟨[mixV (cbN (lc (symLen ι c)) (symLen ι c)), .int .i64 (.ofNat 0)]⟩ := e
    subst e
    have hf2 := low_fact hf
    refine (small_run hE hG hrun hr (c % 1000) (args' := [.string (bsB (symL ι c))]) ?_).mono ?_
    · refine VRl.cons ?_ VRl.nil
      have := keyV_symL hf2 low_len
      rw [low_symL] at this
      exact VR.mixL this
    · rintro e w' ⟨κ, v', rfl, hle, hv', hw⟩
      cases hv' with
      | @tuple _ c' hs hcc =>
        match c', hs, hcc with
        | ⟨[x, y]⟩, _, hcc =>
          have hx := hcc 0 (Nat.zero_lt_succ _) (Nat.zero_lt_succ _)
          have hy := hcc 1 (Nat.lt_succ_self _) (Nat.lt_succ_self _)
          have hx : VR κ (mixV (cbN (lc (symLen ι c)) (symLen ι c))) x := hx
          have hy : VR κ (.int .i64 (.ofNat 0)) y := hy
          cases hy
          obtain ⟨_, _, ds, rfl, hds⟩ := mixL_inv (c := #[]) hx
          obtain ⟨g1, g2, g3⟩ := hf2.mono hle
          have hlen : symLen κ (lc (symLen ι c)) = symLen ι c := (g3 16 (by decide)).trans low_len
          have h2 := symN_cb g1
          rw [hlen] at h2
          have h3 : ds = symN κ (lc (symLen ι c)) := VRl.same (List.all_eq_true.2 fun v hv => by
            unfold cbN at hv
            obtain ⟨i, _, rfl⟩ := List.mem_map.1 hv
            rfl) hds h2
          rw [h3, g2, low_symN]
          refine ⟨ι, _, rfl, Tr.below hr hw, .tuple rfl fun i h1 h2 => ?_⟩
          match i, h1 with
          | 0, _ => exact .sym hf
          | 1, _ => exact .int _ _
end
end Go.Proofs.YtdcioacjhpnihaaGreatDoor
namespace Go.Proofs.YtdcioacjhpnihaaGreatDoor
open Go Go.RowKit
noncomputable section

abbrev PCl := FuncId → List Value → AS → Option (Int × AS)
abbrev PRes := Option (Int × T Value × List Deferred × AS)
/-- an error (a number of type te) that was thrown -/
def thrown (te : TypeId) (c : Int) : List PanicEntry := [{ v := .iface te (.int .i64 c), recovered := false }]
def PanOk (E : Env) (te : TypeId) (f : FuncId) (args : List Value) (s : AS) (c : Int) (s' : AS) : Prop := (∀ args w, (callFunc f args).run E.P w = .ok (.enter f args) w) ∧ ∀ (ι : Emb) (w : World) (args' : List Value), Rep E.P E.C.G ι s.mem w → VRl ι args args' →
  Calls E.P f args'.toArray w fun e w' => e = .panicked (thrown te c) ∧ ∃ ι', Tr E.P E.C.G ι s.mem w ι' s'.mem w'
/-- an operation that throws -/
def pxo (te : TypeId) (pc : PCl) (ev : Operand → Option Value) (o : Oper) (s : AS) : Option (Int × AS) := match o.op with
  | .call c => match c.callee with
    | .value x => match ev x, evs ev c.args.toList with
      | some (.func (.func f) fs cap), some vs => pc f (fs.toList ++ vs ++ cap.toList) s
      | _, _ => none
    | _ => none
  | .panic x => match ev x with
    | some (.iface t (.int .i64 c)) => if t = te then some (c, s) else none
    | _ => none
  | _ => none
def pOps (C : Cfg) (xo : (Operand → Option Value) → Oper → AS → Option (Value × AS)) (pan : (Operand → Option Value) → Oper → AS → Option (Int × AS)) : List FO → T Value → List Deferred → AS → PRes
  | [], _, _, _ => none
  | x :: l, t, d, s => if fWant x t then (match x.o.op with
      | .defer c => match fdefer (evT C t) c with
        | some df => pOps C xo pan l (fPut x.o.dst undef t) (df :: d) s
        | none => none
      | _ => match xo (evT C t) x.o s with
        | some (v, s') => pOps C xo pan l (fPut x.o.dst v t) d s'
        | none => match pan (evT C t) x.o s with
          | some (c, s') => some (c, t, d, s')
          | none => none)
    else pOps C xo pan l (fPut x.o.dst undef t) d s
abbrev PCd := Nat → Code → T Value → List Deferred → AS → PRes
def pStep (E : Env) (te : TypeId) (rc : FCd) (pc : PCl) (ih : PCd) : PCd := fun sz c t d s => match c with
  | .seq x y => match rc none sz x t d s with
    | some (.normal, t', d', s') => ih sz y t' d' s'
    | some _ => none
    | none => ih sz x t d s
  | .cond c x y => if tmpOk sz c then (match evT E.C t c with
    | some (.bool b) => ih sz (if b then x else y) t d s
    | _ => none) else none
  | .block _ c => ih sz c t d s
  | .scope c => ih sz c t d s
  | .loop c => match rc none sz c t d s with
    | some (.normal, t', d', s') => ih sz (.loop c) t' d' s'
    | some _ => none
    | none => ih sz c t d s
  | .region _ ops false => match decL ops sz (List.range ops.size) with
    | some l => pOps E.C (fxo E (fCall E rc) (fRound rc)) (pxo te pc) l t d s
    | none => none
  | _ => none
def pCode (E : Env) (te : TypeId) (rc : FCd) (pc : PCl) (n : Nat) : PCd := Nat.rec (motive := fun _ => PCd) (fun _ _ _ _ _ => none) (fun _ ih => pStep E te rc pc ih) n
theorem pCode_succ (E : Env) (te : TypeId) (rc : FCd) (pc : PCl) (n : Nat) : pCode E te rc pc (n + 1) = pStep E te rc pc (pCode E te rc pc n) := rfl
/-- a function that throws -/
def pCall (E : Env) (te : TypeId) (rc : FCd) (pc : PCl) (n : Nat) : PCl := fun f args s => match E.fns.get f with
  | some fn => match fn.body with
    | some c => if args.length ≤ fn.ntmps ∧ fn.ntmps ≤ 100000 then (match pCode E te rc pc n fn.ntmps c (ofL args 0 .leaf) [] s with
      | some (c, _, [], s') => some (c, s')
      | _ => none) else none
    | none => none
  | none => none
/-- .. so many calls deep -/
def pDeep (E : Env) (te : TypeId) (rc : FCd) (n : Nat) (k : Nat) : PCl := Nat.rec (motive := fun _ => PCl) (fun _ _ _ => none) (fun _ ih => pCall E te rc ih n) k

section
variable {E : Env} (hE : E.Ok) {te : TypeId} {rc : FCd} (hx : FSt E rc) {pc : PCl} (hp : ∀ f args s c s', pc f args s = some (c, s') → PanOk E te f args s c s')
theorem pxo_ok (hp : ∀ f args s c s', pc f args s = some (c, s') → PanOk E te f args s c s') {n : Nat} {t : T Value} {sz : Nat} {d : List Deferred} {o : Oper} {s s' : AS} {c : Int} (ht : ∀ y ∈ o.op.operands, evT E.C t y = aev E.C (toAct t sz d) y) (h : pxo te pc (evT E.C t) o s = some (c, s'))
    {ι : Emb} {w : World} {ac : Act} (hr : Rep E.P E.C.G ι s.mem w) (ha : AR ι (toAct t sz d) ac) {K : Act → World → Prop} {Q : Exit → Act → World → Prop} (hQ : ∀ ι' w', Tr E.P E.C.G ι s.mem w ι' s'.mem w' → Q (.panic (thrown te c)) ac w') : o.wpIn Fence.wide n E.P ac w K Q := by
  obtain ⟨dst, op, ty, pos, aft, gd⟩ := o
  unfold pxo at h
  simp only at h ht
  split at h
  · rename_i cl
    obtain ⟨callee, args, ats⟩ := cl
    simp only at h
    split at h
    · rename_i x
      split at h
      · rename_i f fs cap vs hv hvs
        have h1 := ht x (by simp [Op.operands, Call.operands])
        have h2 := evs_eq (ev := evT E.C t) (C := E.C) (a := toAct t sz d) args.toList fun y hy => ht y (by simp only [Op.operands, Call.operands, Array.mem_append]; exact .inr (Array.mem_toList_iff.1 hy))
        rw [h1] at hv
        rw [h2] at hvs
        obtain ⟨fs', cap', e, hfs, hcap⟩ : ∃ fs' cap', ac.eval x = .func (.func f) fs' cap' ∧ VRs ι fs fs' ∧ VRs ι cap cap' := by
          have := ha.opv hr x _ hv
          generalize ac.eval x = q at this
          cases this with
          | func _ hb1 hb2 h1 h2 => exact ⟨_, _, rfl, ⟨hb1, hb2⟩, h1, h2⟩
        have hargs : VRl ι (fs.toList ++ vs ++ cap.toList) (fs'.toList ++ args.toList.map ac.eval ++ cap'.toList) := ((VRl.of_s hfs).append (aevs_ok args.toList vs (fun y _ u hu => ha.opv hr y u hu) hvs)).append (VRl.of_s hcap)
        have hex : (execOp ac.eval ⟨dst, .call ⟨.value x, args, ats⟩, ty, pos, aft, gd⟩).run E.P w = (callFunc f (fs'.toList ++ args.toList.map ac.eval ++ cap'.toList).toArray).run E.P w := by
          have : (fs' ++ args.map ac.eval ++ cap') = (fs'.toList ++ args.toList.map ac.eval ++ cap'.toList).toArray := by apply Array.ext'; simp
          simp only [execOp, resolve, e, Deferred.ofValue, invoke]
          rw [← this]
          simp
        obtain ⟨c1, c2⟩ := hp _ _ _ _ _ h
        unfold Oper.wpIn
        refine ⟨fun g _ => trivial, ?_⟩
        rw [Oper.semAt_eq _ _ _ (by simp), hex, c1]
        refine ⟨(fun e => by cases e), (callsF (c2 ι w _ hr hargs) none (n - 1)).mono ?_⟩
        rintro e w' ⟨rfl, ι', ht'⟩
        exact hQ ι' w' ht'
      · cases h
    · cases h
  · rename_i x
    split at h
    · rename_i t0 c0 hv
      split at h
      · rename_i e
        subst e
        cases h
        rw [ht x (by simp [Op.operands])] at hv
        have e : ac.eval x = .iface t0 (.int .i64 c) := by
          have := ha.opv hr x _ hv
          generalize ac.eval x = q at this
          cases this with
          | iface _ hq => cases hq; rfl
        have hex : (execOp ac.eval ⟨dst, .panic x, ty, pos, aft, gd⟩).run E.P w = .halt (.panic (.iface t0 (.int .i64 c))) w := by
          simp only [execOp]
          rw [e]
          rfl
        unfold Oper.wpIn
        refine ⟨fun g _ => trivial, ?_⟩
        rw [Oper.semAt_eq _ _ _ (by simp), hex, Oper.uponIn_panic]
        exact hQ ι w (Tr.refl hr)
      · cases h
    · cases h
  · cases h
theorem pOps_ok {ops : Array Oper} {sz n : Nat} {xo : (Operand → Option Value) → Oper → AS → Option (Value × AS)} {xa : Oper → Act → AS → Option (Value × AS)}
    (hxa : ∀ ev o a s r, (∀ y ∈ o.op.operands, ev y = aev E.C a y) → xo ev o s = some r → xa o a s = some r) (hxo : ∀ o a s v s', xa o a s = some (v, s') → OpT Fence.wide n E.P E.C o a s.mem v s'.mem)
    (hp : ∀ f args s c s', pc f args s = some (c, s') → PanOk E te f args s c s') : ∀ (l : List FO), (∀ x ∈ l, FOk ops sz x) → ∀ {t t' : T Value} {d d' : List Deferred} {s s' : AS} {c : Int}, pOps E.C xo (pxo te pc) l t d s = some (c, t', d', s') →
    ∀ {ι : Emb} {w : World} {ac : Act}, Rep E.P E.C.G ι s.mem w → AR ι (toAct t sz d) ac → ∀ {Q : Exit → Act → World → Prop}, (∀ ι' w' ac', Tr E.P E.C.G ι s.mem w ι' s'.mem w' → AR ι' (toAct t' sz d') ac' → Q (.panic (thrown te c)) ac' w') → wpOpsIn Fence.wide n E.P ops Q (l.map (·.i)) ac w
  | [], _, _, _, _, _, _, _, _, h, _, _, _, _, _, _, _ => by cases h
  | x :: l, hl, t, t', d, d', s, s', c, h, ι, w, ac, hr, ha, Q, hQ => by
    have hk := hl x (by simp)
    have hl' := fun y hy => hl y (List.mem_cons_of_mem x hy)
    unfold pOps at h
    rw [List.map_cons, wpOpsIn_cons]
    unfold wpOpIn
    rw [hk.at_]
    simp only [ha.wanted x.o]
    rw [← fWant_ok (d := d) hk]
    split at h
    · rename_i hw
      rw [if_pos hw]
      split at h
      · rename_i cl hc
        split at h
        · rename_i df hdf
          have hdf2 : adefer E.C (toAct t sz d) cl = some df := by
            unfold fdefer at hdf
            unfold adefer
            have hops : x.o.op.operands = cl.operands := by rw [hc]; rfl
            split at hdf
            · rename_i y hy
              have h1 := fEv_ok (C := E.C) (t := t) (d := d) hk y (by rw [hops]; simp [Call.operands, hy])
              have h2 := evs_eq (ev := evT E.C t) (C := E.C) (a := toAct t sz d) cl.args.toList fun z hz => fEv_ok hk z (by rw [hops]; simp only [Call.operands, Array.mem_append]; exact .inr (Array.mem_toList_iff.1 hz))
              simp only [hy]
              rw [← h1, ← h2]
              exact hdf
            · cases hdf
          obtain ⟨d', e1, e2⟩ := adefer_ok ha hr hdf2 x.o.type
          unfold Oper.wpIn
          refine ⟨fun g _ => trivial, ?_⟩
          have hw0 : Fence.wide.round = none := rfl
          rw [hw0, Oper.semAt_none]
          have : (execOp ac.eval x.o).run E.P w = .ok (.defer d') w := by simp [execOp, hc, e1]
          rw [this]
          have hAR : AR ι { (toAct t sz d) with defers := df :: d } { ac with defers := d' :: ac.defers } := ⟨ha.t, e2, ha.d⟩
          have e : (({ (toAct t sz d) with defers := df :: d } : Act).put x.o.dst undef) = toAct (fPut x.o.dst undef t) sz (df :: d) := by
            rw [fPut_ok (t := t) (d := df :: d) hk undef]
            rfl
          refine pOps_ok hxa hxo hp l hl' h hr ?_ hQ
          rw [← e]
          exact hAR.put x.o.dst (VR.undef' ι)
        · cases h
      · split at h
        · rename_i v s1 hv
          refine hxo _ _ _ _ _ (hxa _ x.o (toAct t sz d) s _ (fEv_ok hk) hv) ι w ac hr (fun y _ u hu => ha.opv hr y u hu) _ Q fun ι' w' v' ht hv' => ?_
          refine pOps_ok hxa hxo hp l hl' h ht.rep ?_ fun ι'' w'' ac'' ht' ha' => hQ ι'' w'' ac'' (ht.trans ht') ha'
          rw [fPut_ok hk]
          exact (ha.mono ht.le).put x.o.dst hv'
        · split at h
          · rename_i c1 s1 hc1
            cases h
            exact pxo_ok hp (fEv_ok hk) hc1 hr ha fun ι' w' ht => hQ ι' w' ac ht (ha.mono ht.le)
          · cases h
    · rename_i hw
      rw [if_neg hw]
      refine ⟨fun g _ => trivial, pOps_ok hxa hxo hp l hl' h hr ?_ hQ⟩
      rw [fPut_ok hk]
      exact ha.put x.o.dst (VR.undef' ι)
include hE in
theorem pCode_ok (hx : FSt E rc) (hp : ∀ f args s c s', pc f args s = some (c, s') → PanOk E te f args s c s') : ∀ (N : Nat) {sz : Nat} {c : Code} {t t' : T Value} {d d' : List Deferred} {s s' : AS} {m : Int}, pCode E te rc pc N sz c t d s = some (m, t', d', s') →
    ∀ {n : Nat} {ι : Emb} {w : World} {ac : Act}, Rep E.P E.C.G ι s.mem w → AR ι (toAct t sz d) ac → ∀ {Q : Exit → Act → World → Prop}, (∀ ι' w' ac', Tr E.P E.C.G ι s.mem w ι' s'.mem w' → AR ι' (toAct t' sz d') ac' → Q (.panic (thrown te m)) ac' w') → c.wpIn Fence.wide n E.P Q ac w
  | 0, _, _, _, _, _, _, _, _, _, h, _, _, _, _, _, _, _, _ => by cases h
  | N + 1, sz, c, t, t', d, d', s, s', m, h, n, ι, w, ac, hr, ha, Q, hQ => by
    rw [pCode_succ] at h
    unfold pStep at h
    cases c with
    | seq x y =>
      simp only at h
      refine wpIn_seq ?_
      split at h
      · rename_i t1 d1 s1 h1
        refine hx none sz x t d s _ _ _ _ h1 ι w ac none n hr ha trivial _ fun ι1 w1 ac1 ht har => ?_
        exact pCode_ok hx hp N h ht.rep har fun ι2 w2 ac2 ht2 har2 => hQ ι2 w2 ac2 (ht.trans ht2) har2
      · cases h
      · exact pCode_ok hx hp N h hr ha fun ι1 w1 ac1 ht har => hQ ι1 w1 ac1 ht har
    | cond x a b =>
      simp only at h
      split at h
      · rename_i hok
        split at h
        · rename_i q hb
          have hc : ac.eval x = .bool q := by
            have := ha.opv hr x _ ((evT_aev hok).trans hb)
            generalize ac.eval x = z at this
            cases this
            rfl
          exact wpIn_cond hc (pCode_ok hx hp N h hr ha hQ)
        · cases h
      · cases h
    | block id c => exact wpIn_block (pCode_ok hx hp N h hr ha hQ)
    | scope c => exact wpIn_scope (pCode_ok hx hp N h hr ha fun ι1 w1 ac1 ht har => ⟨fun l => by simp, hQ ι1 w1 ac1 ht har⟩)
    | loop c =>
      refine wpIn_loop_ix (fun j acj wj => ∃ ιj tj dj sj, pCode E te rc pc j sz (.loop c) tj dj sj = some (m, t', d', s') ∧ j ≤ N + 1 ∧ Tr E.P E.C.G ι s.mem w ιj sj.mem wj ∧ AR ιj (toAct tj sz dj) acj) (N + 1) ⟨ι, t, d, s, h, Nat.le_refl _, Tr.refl hr, ha⟩ ?_
      rintro j acj wj ⟨ιj, tj, dj, sj, hxj, hj, htj, haj⟩
      cases j with
      | zero => cases hxj
      | succ j =>
        rw [pCode_succ] at hxj
        unfold pStep at hxj
        simp only at hxj
        split at hxj
        · rename_i t1 d1 s1 h1
          refine hx none sz c tj dj sj _ _ _ _ h1 ιj wj acj none n htj.rep haj trivial _ fun ι1 w1 ac1 ht har => ?_
          exact ⟨j, Nat.lt_succ_self j, ι1, t1, d1, s1, hxj, by omega, htj.trans ht, har⟩
        · cases hxj
        · exact pCode_ok hx hp j hxj htj.rep haj fun ι1 w1 ac1 ht har => hQ ι1 w1 ac1 (htj.trans ht) har
    | region id ops dr =>
      cases dr with
      | true => cases h
      | false =>
        simp only at h
        split at h
        · rename_i l hl
          obtain ⟨hidx, hfo⟩ := decL_ok hl
          refine wpIn_region ?_
          have := pOps_ok (ops := ops) (sz := sz) (n := n) (xa := xOpG E (fCall E rc) (fRound rc)) (fun ev o a s r h1 h2 => fxo_ok h1 h2) (fun o a s v s' h => xOpG_ok hE none n (fCall_ok hE hx) (fRound_ok hx none (n - 1)) h) hp l hfo h hr ha hQ
          rw [hidx] at this
          exact this
        · cases h
    | _ => cases h
termination_by N => N
theorem p_init {fn : Func} {args args' : List Value} {ι : Emb} (h1 : args.length ≤ fn.ntmps) (h2 : fn.ntmps ≤ 100000) (ha : VRl ι args args') : AR ι (toAct (ofL args 0 .leaf) fn.ntmps []) ⟨args'.toArray ++ Array.replicate (fn.ntmps - args'.toArray.size) undef, []⟩ := by
  rw [toAct_of args fn.ntmps [] h1 (by omega)]
  refine ⟨?_, trivial⟩
  have e : (args'.toArray ++ Array.replicate (fn.ntmps - args'.toArray.size) undef) = (args' ++ List.replicate (fn.ntmps - args.length) undef).toArray := by simp [ha.1]
  have e2 : (args.toArray ++ Array.replicate (fn.ntmps - args.length) undef) = (args ++ List.replicate (fn.ntmps - args.length) undef).toArray := by simp
  show VRs ι _ _
  simp only
  rw [e, e2]
  exact (ha.append ⟨by simp, fun i a b h1 h2 => by
    rw [h1] at h2
    cases h2
    have := List.eq_of_mem_replicate (List.mem_of_getElem? h1)
    rw [this]
    exact VR.undef' ι⟩).s
include hE in
theorem pCall_ok (hx : FSt E rc) (hp : ∀ f args s c s', pc f args s = some (c, s') → PanOk E te f args s c s') {n : Nat} {f : FuncId} {args : List Value} {s s' : AS} {m : Int} (h : pCall E te rc pc n f args s = some (m, s')) : PanOk E te f args s m s' := by
  unfold pCall at h
  split at h
  · rename_i fn hfn
    obtain ⟨h1, h2⟩ := hE.fns f fn hfn
    split at h
    · rename_i c hc
      split at h
      · rename_i hsz
        split at h
        · rename_i c0 t1 s1 hrun
          cases h
          refine ⟨h2, fun ι w args' hr ha => callsIn_wide.1 (callsIn_of_wp_marks (n := 5) h1 hc trivial ?_ rfl)⟩
          refine pCode_ok hE hx hp n hrun hr (p_init hsz.1 hsz.2 ha) fun ι' w' ac' ht har => ?_
          have hd : ac'.defers = [] := by
            have := har.d
            cases hq : ac'.defers with
            | nil => rfl
            | cons a l => rw [hq] at this; exact this.elim
          show LeavesInM Fence.wide 5 E.P fn ac'.tmps _ ac'.defers (.panicking (thrown te m)) w'
          rw [hd]
          exact ⟨rfl, ι', ht⟩
        · cases h
      · cases h
    · cases h
  · cases h
include hE in
theorem pDeep_ok (hx : FSt E rc) {n : Nat} : ∀ (k : Nat) (f : FuncId) (args : List Value) (s : AS) (m : Int) (s' : AS), pDeep E te rc n k f args s = some (m, s') → PanOk E te f args s m s'
  | 0, _, _, _, _, _, h => by cases h
  | k + 1, _, _, _, _, _, h => pCall_ok hE hx (pDeep_ok hx k) h
end
/-- a deferred call that takes an error up and lays it down where its argument points -/
def TakesUp (P : Program) (te : TypeId) (g : FuncId) : Prop := (∀ args w, (callFunc g args).run P w = .ok (.enter g args) w) ∧ ∀ (n : Nat) (c : Int) (p : Value) (w w' : World), (Instr.storeAt te p (.int .i64 c)).run P w = .ok () w' →
  CallsDIn Fence.wide n P g #[p] (.panicking (thrown te c)) w fun e u w'' => settle u = .returning ∧ (∃ v, e = .returned v) ∧ w'' = w'
/-- a function in which an error is thrown, and taken up -/
def tCall (E : Env) (te : TypeId) (rc : FCd) (pc : PCl) (n : Nat) (g : FuncId) : FCl := fun f args s => match E.fns.get f with
  | some fn => match fn.body with
    | some c => if args.length ≤ fn.ntmps ∧ fn.ntmps ≤ 100000 then (match pCode E te rc pc n fn.ntmps c (ofL args 0 .leaf) [] s with
      | some (c, t, [⟨.fn (.func g') cap, dargs⟩], s') => if g' = g ∧ cap.isEmpty = true then (match dargs.toList with
        | [p] => match astore E.C s' te p (.int .i64 c) with
          | some s2 => match fResults E fn.ntmps t s2 fn.results.toList with
            | some vs => some (packV vs, s2)
            | none => none
          | none => none
        | _ => none) else none
      | _ => none) else none
    | none => none
  | none => none
section
variable {E : Env} (hE : E.Ok) {te : TypeId} {rc : FCd} {pc : PCl}
include hE
theorem tCall_ok (hx : FSt E rc) (hp : ∀ f args s c s', pc f args s = some (c, s') → PanOk E te f args s c s') {n : Nat} {g : FuncId} (hg : TakesUp E.P te g) {f : FuncId} {args : List Value} {s s' : AS} {v : Value} (h : tCall E te rc pc n g f args s = some (v, s')) : CallOk E f args s v s' := by
  unfold tCall at h
  split at h
  · rename_i fn hfn
    obtain ⟨h1, h2⟩ := hE.fns f fn hfn
    split at h
    · rename_i c hc
      split at h
      · rename_i hsz
        split at h
        · rename_i c0 t1 g' cap dargs s1 hrun
          split at h
          · rename_i hgc
            obtain ⟨rfl, hcap⟩ := hgc
            rw [Array.isEmpty_iff] at hcap
            subst hcap
            split at h
            · rename_i p hdp
              split at h
              · rename_i s2 hs2
                split at h
                · rename_i vs hvs
                  cases h
                  refine ⟨h2, fun ι w args' hr ha => callsIn_wide.1 (callsIn_of_wp_marks (n := 5) h1 hc trivial ?_ rfl)⟩
                  refine pCode_ok hE hx hp n hrun hr (p_init hsz.1 hsz.2 ha) fun ι' w' ac' ht har => ?_
                  show LeavesInM Fence.wide 5 E.P fn ac'.tmps _ ac'.defers (.panicking (thrown te c0)) w'
                  obtain ⟨d', hd, hd1⟩ : ∃ d', ac'.defers = [d'] ∧ DR ι' ⟨.fn (.func g') #[], dargs⟩ d' := by
                    have := har.d
                    match hq : ac'.defers, this with
                    | [], h => exact h.elim
                    | [a], h => exact ⟨a, rfl, h.1⟩
                    | _ :: _ :: _, h => exact h.2.elim
                  obtain ⟨t', as'⟩ := d'
                  cases t' with
                  | fn f' cap' =>
                    cases f' with
                    | func g2 =>
                      obtain ⟨rfl, hcap, hargs'⟩ : g2 = g' ∧ VRs ι' #[] cap' ∧ VRs ι' dargs as' := hd1
                      have hc0 : cap' = #[] := Array.eq_empty_of_size_eq_zero hcap.1.symm
                      subst hc0
                      obtain ⟨p', hp', hvp⟩ : ∃ p', as' = #[p'] ∧ VR ι' p p' := by
                        have hl := VRl.of_s hargs'
                        rw [hdp] at hl
                        obtain ⟨l⟩ := as'
                        match l, hl with
                        | [x], hl => exact ⟨x, rfl, hl.2 0 _ _ rfl rfl⟩
                        | [], hl => exact absurd hl.1 (by simp)
                        | _ :: _ :: _, hl => exact absurd hl.1 (by simp)
                      subst hp'
                      obtain ⟨w2, hst, ht2⟩ := astore_ok hE.C ht.rep hs2 hvp (.int .i64 c0)
                      rw [hd]
                      refine ⟨by simp, .inr ⟨(fun e => by cases e), .func g2, #[], g2, #[p'], rfl, ?_, fun _ _ => trivial, ?_⟩⟩
                      · have := hg.1 #[p'] w'
                        simpa [invoke] using this
                      · refine (hg.2 4 c0 p' w' w2 hst).mono ?_
                        rintro e u w3 ⟨hu, ⟨v0, rfl⟩, rfl⟩
                        show LeavesInM Fence.wide 5 E.P fn ac'.tmps _ [] (settle u) w3
                        rw [hu]
                        obtain ⟨v', q1, q2⟩ := results_ok hE ht2.rep (a := toAct t1 fn.ntmps [⟨.fn (.func g2) #[], dargs⟩]) (ac := ac') (har.t.mono ht2.le) (fResults_eq hvs)
                        exact ⟨v', q1, ι', v', rfl, ht.trans ht2, q2⟩
                    | _ => exact hd1.elim
                  | _ => exact hd1.elim
                · cases h
              · cases h
            · cases h
          · cases h
        · cases h
      · cases h
    · cases h
  · cases h
end
end
end Go.Proofs.YtdcioacjhpnihaaGreatDoor
namespace Go.Proofs.YtdcioacjhpnihaaGreatDoor
open Go Go.RowKit
noncomputable section

def isStrS : Value → Bool
  | .string _ => true
  | .func (.method _) _ _ => true
  | _ => false
theorem isStrS.one {ι : Emb} {v v' : Value} (h : isStrS v = true) (hv : VR ι v v') : v'.oneCell' = true := by
  cases hv <;> first | rfl | cases h
def xInsS (C : Cfg) (tS : TypeId) (args : List Value) (s : AS) : Option (Value × AS) := match args with
  | [.slice (some ⟨k, o, some p⟩) n c, .int .i64 (.ofNat i), .slice (some ⟨kv, ov, none⟩) m mc] => match s.h.get k, s.h.get kv with
    | some (.cells cs e _), some (.cells vs e' _) => match vs.toList with
      | [v] => if o = 0 ∧ p = 0 ∧ ov = 0 ∧ m = 1 ∧ mc = 1 ∧ n = c ∧ cs.size = n ∧ i < n ∧ n ≤ 100000 ∧ e = tS ∧ e' = tS ∧ isStrD (C.und tS) = true ∧ C.size tS = some 1 ∧ cs.toList.all isStrS = true ∧ isStrS v = true ∧ kv ≠ k ∧ s.n < 99999999 ∧ k < s.n then
          some (.slice (some ⟨s.n, 0, some 0⟩) (n + 1) (n + 1), ⟨(s.h.put 100000000 k none).put 100000000 s.n (some (.cells (insL cs.toList i v).toArray tS (0, 0))), s.n + 1⟩) else none
      | _ => none
    | _, _ => none
  | _ => none
theorem xInsS_ok {P : Program} {C : Cfg} (hC : C.ok P) {f : FuncId} {tS : TypeId} {args : List Value} {s s' : AS} {v : Value}
    (H1 : ∀ (b n c i vb : Nat) (cs : List Value) (v : Value) (w : World), i < n → n + 1 ≤ c → c ≤ 9223372036854775807 → vb ≠ b → cs.length = n → (∀ j v, cs[j]? = some v → w.cell? ⟨b, 0 + j, none⟩ = some v) → (∀ j, j < n + 1 → (w.cell? ⟨b, 0 + j, none⟩).isSome = true) → (∀ j, j < n + 1 → w.frozen? ⟨b, 0 + j, none⟩ = false) →
      (∀ j u, [v][j]? = some u → w.cell? ⟨vb, 0 + j, none⟩ = some u) → (∀ v ∈ cs, v.oneCell' = true) → (∀ u ∈ [v], u.oneCell' = true) → ∀ (tA tB : TypeId) (kA kB : Nat), w.shape? vb = some (tA, kA) → w.shape? b = some (tB, kB) → kB ≠ 0 → w.frozen? ⟨vb, 0, none⟩ = false → w.frozen? ⟨vb, kA, none⟩ = false →
      Calls P f #[.slice (some ⟨b, 0, none⟩) n c, .int .i64 i, .slice (some ⟨vb, 0, none⟩) 1 1] w fun e w' => e = .returned (.slice (some ⟨b, 0, none⟩) (n + 1) c) ∧ w' = (w.drew.setCells b (0 + (i + 1)) (cs.drop i)).setCells b (0 + i) [v])
    (H2 : ∀ (b n c i vb : Nat) (cs : List Value) (v : Value) (w : World), i < n → n ≤ c → c < n + 1 → (n + 1) * 16 ≤ 140737488355328 → cs.length = n → (∀ j v, cs[j]? = some v → w.cell? ⟨b, 0 + j, none⟩ = some v) → (∀ j u, [v][j]? = some u → w.cell? ⟨vb, 0 + j, none⟩ = some u) → (∀ v ∈ cs, v.oneCell' = true) → (∀ u ∈ [v], u.oneCell' = true) →
      Calls P f #[.slice (some ⟨b, 0, none⟩) n c, .int .i64 i, .slice (some ⟨vb, 0, none⟩) 1 1] w fun e w' => e = .returned (.slice (some ⟨w.heap.size, 0, none⟩) (n + 1) (grownCap w (n + 1) c tS)) ∧
        w' = (((w.alloc (.cells ((cs.take i).toArray ++ Builtin.zeroCells (Value.string ⟨#[]⟩).cells (n + 1 - i) ++ Builtin.zeroCells (Value.string ⟨#[]⟩).cells (grownCap w (n + 1) c tS - (n + 1))) tS)).drew.setCells w.heap.size i [v]).drew).setCells w.heap.size (i + 1) (cs.drop i))
    (h : xInsS C tS args s = some (v, s')) : AnsOk P C f args s v s' := by
  unfold xInsS at h
  split at h
  rotate_left
  · cases h
  rename_i k o p n c i kv ov m mc
  split at h
  rotate_left
  · cases h
  rename_i cs e fr vs e' fr' hk hkv
  split at h
  rotate_left
  · cases h
  rename_i u hvs
  split at h
  rotate_left
  · cases h
  rename_i hq
  obtain ⟨rfl, rfl, rfl, rfl, rfl, rfl, hn, hi, hn2, he1, he2, hu, hz, hcs, huv, hne, hsn, hks⟩ := hq
  cases h
  rw [he1] at hk
  rw [he2] at hkv
  replace hu := isStrD_ok hu
  intro ι w args' hr ha
  obtain ⟨a1, a2, a3, rfl⟩ : ∃ a b c, args' = [a, b, c] := by
    have := ha.1
    match args', this with
    | [a, b, c], _ => exact ⟨a, b, c, rfl⟩
  have e1 := ha.2 0 _ _ rfl rfl
  have e2 := VR.flatE (v := .int .i64 (.ofNat i)) rfl (ha.2 1 _ _ rfl rfl)
  have e3 := ha.2 2 _ _ rfl rfl
  subst e2
  have hcz : P.cellsOf tS = 1 := Cfg.cellsOf hC hz
  have hnu8 : ¬ P.underlying tS = some (.int .u8) := fun h => by rw [Cfg.und_ok hC hu] at h; cases h
  obtain ⟨b, cur, fb, hb, hw, hfr, hs, hv⟩ := hr.row hk
  obtain ⟨vb, cur2, fb2, hb2, hw2, hfr2, hs2, hv2⟩ := hr.row hkv
  obtain rfl : fb = (0, 0) := (hr.fru hk hb hw).resolve_right hnu8
  obtain rfl : fb2 = (0, 0) := (hr.fru hkv hb2 hw2).resolve_right hnu8
  have hvsz : vs.size = 1 := by rw [← Array.length_toList, hvs]; rfl
  rw [hcz, Nat.mul_one] at hs hs2
  have hcl0 : cs.toList.length = n := by rw [Array.length_toList, hn]
  rw [hn] at hv
  generalize hcur : cur.toList.take n = L at hv
  have hcl : L.length = n := hv.1.symm.trans hcl0
  rw [hvsz, hvs] at hv2
  obtain ⟨u', hvs2⟩ : ∃ u', cur2.toList.take 1 = [u'] := by
    have h1 := hv2.1
    match hq : cur2.toList.take 1, h1 with
    | [x], _ => exact ⟨x, rfl⟩
  rw [hvs2] at hv2
  have huu : VR ι u u' := hv2.2 0 _ _ rfl rfl
  have h1L : ∀ v ∈ L, v.oneCell' = true := fun v hm => by
    obtain ⟨j, hj, rfl⟩ := List.getElem_of_mem hm
    have hj0 : j < cs.toList.length := by rw [hcl0, ← hcl]; exact hj
    exact isStrS.one (List.all_eq_true.1 hcs _ (List.getElem_mem hj0)) (hv.2 j _ _ (List.getElem?_eq_getElem hj0) (List.getElem?_eq_getElem hj))
  cases e3 with
  | slX _ _ hb3 =>
    rw [hb2] at hb3
    cases hb3
    cases e1 with
    | slG _ _ hb4 hcm =>
      rw [hb] at hb4
      cases hb4
      have hbv : vb ≠ b := fun e => hne (hr.inj kv k b (by show s.h.get kv ≠ none; rw [hkv]; exact fun e => by cases e) (by show s.h.get k ≠ none; rw [hk]; exact fun e => by cases e) (e ▸ hb2) hb)
      have hcell : ∀ j v, L[j]? = some v → w.cell? ⟨b, 0 + j, none⟩ = some v := fun j v hj => by
        have hjl := (List.getElem?_eq_some_iff.1 hj).1
        rw [← hcur, List.getElem?_take_of_lt (by omega), Array.getElem?_toList] at hj
        simp only [World.cell?, hw, Nat.zero_add]
        exact hj
      have hcellv : ∀ j x, [u'][j]? = some x → w.cell? ⟨vb, 0 + j, none⟩ = some x := fun j x hj => by
        have hjl := (List.getElem?_eq_some_iff.1 hj).1
        have hj2 := hj
        rw [← hvs2, List.getElem?_take_of_lt (by simpa using hjl), Array.getElem?_toList] at hj2
        simp only [World.cell?, hw2, Nat.zero_add]
        exact hj2
      have h1u : ∀ x ∈ [u'], x.oneCell' = true := fun x hx => by
        rw [List.mem_singleton] at hx
        subst hx
        exact isStrS.one huv huu
      have hks0 : k ≠ s.n := by omega
      have hget : ∀ j, ((s.h.put 100000000 k none).put 100000000 s.n (some (.cells (insL cs.toList i u).toArray tS (0, 0)))).get j = if j = s.n then some (.cells (insL cs.toList i u).toArray tS (0, 0)) else if j = k then none else s.h.get j := fun j => by
        rw [T.get_put _ _ _ _ _ (by omega), T.get_put _ _ _ _ _ (by omega)]
      have hcurG : ∀ j, j < n → cur[j]? = L[j]? := fun j hj => by
        rw [← hcur, List.getElem?_take_of_lt (by omega), Array.getElem?_toList]
      have hIns : ∀ (κ : Emb) (c' : Array Value), ι.le κ → (∀ j, j < n + 1 → c'[j]? = (insL L i u')[j]?) → ∀ j (h : j < (insL cs.toList i u).toArray.size) (h' : j < c'.size), VR κ (insL cs.toList i u).toArray[j] c'[j] := fun κ c' hκ hc j h h' => by
        have hj : j < n + 1 := by
          have h := h
          rw [List.size_toArray, insL_len, hcl0] at h
          exact h
        have e := hc j hj
        rw [Array.getElem?_eq_getElem h'] at e
        have e2 : (insL cs.toList i u)[j]? = some (insL cs.toList i u).toArray[j] := by rw [← List.getElem?_toArray, Array.getElem?_eq_getElem h]
        refine VR.mono hκ ?_
        rw [insL_get _ _ _ (by omega)] at e e2
        by_cases h1 : j < i
        · rw [if_pos h1] at e e2
          exact hv.2 j _ _ e2 e.symm
        · rw [if_neg h1] at e e2
          by_cases h2 : j = i
          · rw [if_pos h2] at e e2
            rw [← Option.some.inj e2, Option.some.inj e]
            exact huu
          · rw [if_neg h2] at e e2
            exact hv.2 (j - 1) _ _ e2 e.symm
      have hnx : n + ι.x k = cur.size := by rw [hs, hn]
      by_cases hroom : n + 1 ≤ n + ι.x k
      · have hcall := H1 b n (n + ι.x k) i vb L u' w hi hroom (by unfold maxLen at hcm; omega) hbv hcl hcell (fun j hj => by simp only [World.cell?, hw, Nat.zero_add]; simp; omega) (fun j _ => by simp [World.frozen?, hw]) hcellv h1L h1u
          tS tS cur2.size cur.size (by simp [World.shape?, hw2]) (by simp [World.shape?, hw]) (by omega) (by simp [World.frozen?, hw2]) (by simp [World.frozen?, hw2])
        refine hcall.mono ?_
        rintro en w' ⟨rfl, rfl⟩
        rw [Nat.zero_add, Nat.zero_add]
        obtain ⟨p1, p2, p3, p4⟩ := setCells_fix b (L.drop i) (i + 1) w.drew
        obtain ⟨q1, q2, q3, q4⟩ := setCells_fix b [u'] i (w.drew.setCells b (i + 1) (L.drop i))
        have hx : (ι.add s.n b (ι.x k - 1)).x s.n = ι.x k - 1 := Emb.add_x ..
        refine ⟨ι.add s.n b (ι.x k - 1), _, rfl, Tr.turn hr (k := k) (q := s.n) (by show s.h.get k ≠ none; rw [hk]; exact fun e => by cases e) hb (Nat.le_refl _) hget (by show s.n < s.n + 1; omega) (q1.trans p1) (q2.trans p2) (q3.trans p3) (q4.trans p4)
          (heap_setCells b _ _ _ i _ _ (heap_setCells b _ _ _ (i + 1) w.drew cur hw)) (fun j hj => (setCells_other b _ i _ j hj).trans (setCells_other b _ (i + 1) _ j hj)) ⟨rfl, ⟨fun j _ => by simp, .inl rfl⟩, ?_, hIns _ _ (Emb.le_add (hr.new s.n (Nat.le_refl _))) fun j hj => ?_⟩, ?_⟩
        · have h8 : (insL cs.toList i u).toArray.size = n + 1 := by rw [List.size_toArray, insL_len, hcl0]
          rw [setA_size, setA_size, h8, hcz]
          omega
        · rw [setA_get, setA_get, setA_size, insL_get _ _ _ (by omega)]
          by_cases h1 : j < i
          · rw [if_neg (by omega), if_neg (by omega), if_pos h1, hcurG j (by omega)]
          · rw [if_neg h1]
            by_cases h2 : j = i
            · subst h2
              rw [if_pos ⟨Nat.le_refl _, by simp, by omega⟩, if_pos rfl, Nat.sub_self]
              rfl
            · rw [if_neg (by simp; omega), if_neg h2, if_pos ⟨by omega, by rw [List.length_drop, hcl]; omega, by omega⟩, List.getElem?_drop]
              congr 1
              omega
        · have := VR.slG (ι := ι.add s.n b (ι.x k - 1)) (o := 0) (n + 1) (n + 1) (Emb.add_b ι s.n b (ι.x k - 1)) (by rw [hx]; omega)
          rw [hx, show n + 1 + (ι.x k - 1) = n + ι.x k by omega] at this
          exact this
      · have hcall := H2 b n (n + ι.x k) i vb L u' w hi (by omega) (by omega) (by omega) hcl hcell hcellv h1L h1u
        refine hcall.mono ?_
        rintro en w' ⟨rfl, rfl⟩
        have hge := grownCap_ge w (n + 1) (n + ι.x k) tS
        have hle := grownCap_le_maxLen w (n + 1) (n + ι.x k) tS (by unfold maxLen; omega)
        generalize grownCap w (n + 1) (n + ι.x k) tS = cap at *
        have hz1 : ∀ m, (Builtin.zeroCells (Value.string ⟨#[]⟩).cells m).size = m := fun m => by simp [Builtin.zeroCells, Value.cells]
        have hsz : ((L.take i).toArray).size = i := by simp; omega
        have hnew := heap_alloc_new w (.cells ((L.take i).toArray ++ Builtin.zeroCells (Value.string ⟨#[]⟩).cells (n + 1 - i) ++ Builtin.zeroCells (Value.string ⟨#[]⟩).cells (cap - (n + 1))) tS)
        obtain ⟨p1, p2, p3, p4⟩ := setCells_fix w.heap.size [u'] i (w.alloc (.cells ((L.take i).toArray ++ Builtin.zeroCells (Value.string ⟨#[]⟩).cells (n + 1 - i) ++ Builtin.zeroCells (Value.string ⟨#[]⟩).cells (cap - (n + 1))) tS)).drew
        have hW1g := heap_setCells w.heap.size _ _ [u'] i (w.alloc (.cells ((L.take i).toArray ++ Builtin.zeroCells (Value.string ⟨#[]⟩).cells (n + 1 - i) ++ Builtin.zeroCells (Value.string ⟨#[]⟩).cells (cap - (n + 1))) tS)).drew _ hnew
        generalize hW1 : (w.alloc (.cells ((L.take i).toArray ++ Builtin.zeroCells (Value.string ⟨#[]⟩).cells (n + 1 - i) ++ Builtin.zeroCells (Value.string ⟨#[]⟩).cells (cap - (n + 1))) tS)).drew.setCells w.heap.size i [u'] = W1 at *
        obtain ⟨q1, q2, q3, q4⟩ := setCells_fix w.heap.size (L.drop i) (i + 1) W1.drew
        have hx : (ι.add s.n w.heap.size (cap - (n + 1))).x s.n = cap - (n + 1) := Emb.add_x ..
        have hbel : Below w.heap.size w (W1.drew.setCells w.heap.size (i + 1) (L.drop i)) := ⟨q1.trans p1, q2.trans p2, q3.trans p3, by rw [q4]; show w.heap.size ≤ W1.heap.size; rw [p4]; show w.heap.size ≤ (w.heap.push _).size; simp, fun j hj => by
          rw [setCells_other _ _ _ _ _ (by omega)]
          show W1.heap[j]? = _
          rw [← hW1, setCells_other _ _ _ _ _ (by omega)]
          show (w.heap.push _)[j]? = _
          rw [Array.getElem?_push, if_neg (by omega)]⟩
        have hm1 : ∀ j, (AS.mk (s.h.put 100000000 s.n (some (.cells (insL cs.toList i u).toArray tS (0, 0)))) (s.n + 1)).mem.get j = if j = s.n then some (.cells (insL cs.toList i u).toArray tS (0, 0)) else s.mem.get j := fun j => by
          show (s.h.put 100000000 s.n _).get j = _
          rw [T.get_put _ _ _ _ _ (by omega)]
          rfl
        refine ⟨ι.add s.n w.heap.size (cap - (n + 1)), _, rfl, Tr.less (Tr.fresh hr hbel (Nat.le_refl _) hm1 (by show s.n < s.n + 1; omega) (heap_setCells w.heap.size _ _ _ (i + 1) W1.drew _ hW1g) ⟨rfl, ⟨fun j _ => by simp, .inl rfl⟩, ?_, hIns _ _ (Emb.le_add (hr.new s.n (Nat.le_refl _))) fun j hj => ?_⟩) (fun j o hj => ?_) rfl, ?_⟩
        · have h8 : (insL cs.toList i u).toArray.size = n + 1 := by rw [List.size_toArray, insL_len, hcl0]
          rw [setA_size, setA_size, Array.size_append, Array.size_append, hsz, hz1, hz1, h8, hcz]
          omega
        · rw [setA_get, setA_size, setA_get, Array.size_append, Array.size_append, hsz, hz1, hz1, insL_get _ _ _ (by omega)]
          by_cases h1 : j < i
          · rw [if_neg (by omega), if_neg (by omega), if_pos h1, Array.getElem?_append_left (by rw [Array.size_append, hsz, hz1]; omega), Array.getElem?_append_left (by rw [hsz]; exact h1), List.getElem?_toArray, List.getElem?_take_of_lt h1]
          · rw [if_neg h1]
            by_cases h2 : j = i
            · subst h2
              rw [if_neg (by omega), if_pos ⟨Nat.le_refl _, by simp, by omega⟩, if_pos rfl, Nat.sub_self]
              rfl
            · rw [if_neg h2, if_pos ⟨by omega, by rw [List.length_drop, hcl]; omega, by omega⟩, List.getElem?_drop]
              congr 1
              omega
        · have hj : (AS.mem ⟨_, _⟩).get j = some o := hj
          rw [hm1]
          have hj2 : ((s.h.put 100000000 k none).put 100000000 s.n (some (.cells (insL cs.toList i u).toArray tS (0, 0)))).get j = some o := hj
          rw [hget] at hj2
          by_cases e9 : j = s.n
          · rw [if_pos e9] at hj2 ⊢; exact hj2
          · rw [if_neg e9] at hj2 ⊢
            by_cases e8 : j = k
            · rw [if_pos e8] at hj2; cases hj2
            · rw [if_neg e8] at hj2; exact hj2
        · have := VR.slG (ι := ι.add s.n w.heap.size (cap - (n + 1))) (o := 0) (n + 1) (n + 1) (Emb.add_b ι s.n w.heap.size (cap - (n + 1))) (by rw [hx]; omega)
          rw [hx, show n + 1 + (cap - (n + 1)) = cap by omega] at this
          exact this
end
end Go.Proofs.YtdcioacjhpnihaaGreatDoor
namespace Go.Proofs.YtdcioacjhpnihaaGreatDoor.Qn
open Go Go.RowKit

theorem hide {p : Prop} (h : p) : Hid p := h
theorem ret_bool {a b : Bool} (h : a = b) : Ending.returned (.bool a) = .returned (.bool b) := by rw [h]
theorem size_list (s : ByteArray) : s.data.toList.length = s.size := by rw [Array.length_toList]; rfl
theorem get_list (s : ByteArray) (k : Nat) (h : k < s.size) : s.data.toList[k]'(by rw [size_list]; exact h) = s[k] := rfl
/-! ### path.Name -/
def good (c : UInt8) : Bool := decide (33 ≤ c.toNat) && decide (c.toNat ≤ 126) && !(c.toNat == 47)
def name (s : List UInt8) : Bool := s.all good && decide (1 ≤ s.length) && decide (s.length ≤ 16)
theorem slash : ((⟨#[47]⟩ : ByteArray)[0]'(by decide)).toNat = 47 := rfl
theorem name_bad (s : ByteArray) (k : Nat) (h : k < s.size) (hb : good s[k] = false) : name s.data.toList = false := by
  unfold name
  have : s.data.toList.all good = false := by
    rw [List.all_eq_false]
    exact ⟨s[k], by rw [← get_list s k h]; exact List.getElem_mem _, by simp [hb]⟩
  rw [this]; rfl
theorem name_good (s : ByteArray) (h : ∀ j (hj : j < s.size), good s[j] = true) : name s.data.toList = (decide (1 ≤ s.size) && decide (s.size ≤ 16)) := by
  unfold name
  have : s.data.toList.all good = true := by
    rw [List.all_eq_true]
    intro x hx
    obtain ⟨j, hj, rfl⟩ := List.getElem_of_mem hx
    exact h j (by rwa [size_list] at hj)
  rw [this, size_list]; rfl
set_option maxHeartbeats 400000 in
theorem good_any (c : UInt8) (w : World) : Calls Tryz.prog 110 #[.int .u8 c.toNat] w fun e w' => e = .returned (.bool (good c)) ∧ w = w' := by
  by_cases h1 : 33 ≤ c.toNat
  · by_cases h2 : c.toNat ≤ 126
    · by_cases h3 : c.toNat = 47
      · have h4 : ((c.toNat : Int) == 47) = true := by simp [h3]
        have h4' : ((c.toNat : Int) != 47) = false := by simp [h3]
        have H3 : Hid (c.toNat = 47) := h3
        clear h3
        go_enter Tryz.func110, Tryz.ntmps110
        go_wp2
        go_ret
        exact ⟨ret_bool (by simp [good, H3.out, slash]), rfl⟩
      · have h4 : ((c.toNat : Int) == 47) = false := by simp; omega
        have h4' : ((c.toNat : Int) != 47) = true := by simp; omega
        go_enter Tryz.func110, Tryz.ntmps110
        go_wp2
        go_ret
        refine ⟨ret_bool ?_, rfl⟩
        have e : (c.toNat == 47) = false := by simp [h3]
        simp only [good, slash, e]
        simp [h1, h2, h4']
    · go_enter Tryz.func110, Tryz.ntmps110
      go_wp2
      go_ret
      exact ⟨ret_bool (by simp [good]; omega), rfl⟩
  · go_enter Tryz.func110, Tryz.ntmps110
    go_wp2
    go_ret
    exact ⟨ret_bool (by simp [good]; omega), rfl⟩

set_option maxHeartbeats 400000 in
theorem pathName_any (s : ByteArray) (w : World) (hs : s.size ≤ maxLen) : Calls Tryz.prog 52 #[.string s] w fun e w' => e = .returned (.bool (name s.data.toList)) ∧ w = w' := by
  unfold maxLen at hs
  go_enter Tryz.func52, Tryz.ntmps52
  go_wp2
  go_loop [7] (fun i => ∃ k : Nat, k ≤ s.size ∧ i = .int .i64 k ∧ ∀ j (hj : j < s.size), j < k → good s[j] = true) (fun i => s.size - (intOf i).toNat)
  case atStart => exact ⟨0, Nat.zero_le _, rfl, fun j _ h => absurd h (by omega)⟩
  case round =>
    obtain ⟨k, hk, rfl, hg⟩ := hrel
    have HG : Hid (∀ j (hj : j < s.size), j < k → good s[j] = true) := hg
    clear hg
    by_cases hlt : k < s.size
    · have hgood := good_any s[k] w
      generalize hb : good s[k] = b at hgood
      have HB : Hid (good s[k] = b) := hb
      clear hb
      have HC := hide hgood
      clear hgood
      cases b
      · go_wp2_with (go_at_call 110; refine HC.out.mono ?_; rintro e w' ⟨rfl, rfl⟩)
        go_ret
        exact ⟨ret_bool (by rw [name_bad s k hlt HB.out]), rfl⟩
      · go_wp2_with (go_at_call 110; refine HC.out.mono ?_; rintro e w' ⟨rfl, rfl⟩)
        go_round
        case rel =>
          refine ⟨k + 1, by omega, by go_num, fun j hj hjk => ?_⟩
          by_cases e : j = k
          · subst e; exact HB.out
          · exact HG.out j hj (by omega)
        case measure => simp [intOf]; omega
    · have hall : ∀ j (hj : j < s.size), good s[j] = true := fun j hj => HG.out j hj (by omega)
      have HN := name_good s hall
      have HN' : Hid (name s.data.toList = (decide (1 ≤ s.size) && decide (s.size ≤ 16))) := HN
      clear HN hall
      by_cases h0 : 0 < s.size
      · by_cases h17 : s.size ≤ 16
        · go_wp2
          go_ret
          refine ⟨ret_bool (HN'.out.trans ?_).symm, rfl⟩
          rw [Bool.eq_iff_iff]; simp; omega
        · go_wp2
          go_ret
          refine ⟨ret_bool (HN'.out.trans ?_).symm, rfl⟩
          rw [Bool.eq_iff_iff]; simp; omega
      · go_wp2
        go_ret
        exact ⟨ret_bool (by rw [HN'.out]; simp; omega), rfl⟩


theorem name_eq (l : List UInt8) : name l = nameL l := by
  have hg : ∀ c : UInt8, good c = goodB c.toNat := fun c => by
    have e : Nat.beq c.toNat 47 = (c.toNat == 47) := by rw [Bool.eq_iff_iff, Nat.beq_eq, beq_iff_eq]
    unfold good goodB
    rw [e, Bool.eq_iff_iff]
    simp
  unfold name nameL
  rw [show good = fun c : UInt8 => goodB c.toNat from funext hg, Bool.eq_iff_iff]
  simp only [Bool.and_eq_true, decide_eq_true_eq, Nat.ble_eq]
  exact ⟨fun h => ⟨⟨h.1.2, h.2⟩, h.1.1⟩, fun h => ⟨⟨h.2, h.1.1⟩, h.1.2⟩⟩
theorem pathName (b : ByteArray) (w : World) (hb : b.size ≤ 100) : Calls Tryz.prog 52 #[.string b] w fun e w' => e = .returned (.bool (nameL b.data.toList)) ∧ Below w.heap.size w w' := by
  refine (pathName_any b w (by unfold maxLen; omega)).mono ?_
  rintro e w' ⟨rfl, rfl⟩
  rw [name_eq]
  exact ⟨rfl, Below.refl _ _⟩
theorem revB (n : Int) (w : World) : Calls Tryz.prog 350 #[.int .u32 n] w fun e w' => ∃ m : Int, e = .returned (.int .u32 m) ∧ (0 ≤ m ∧ m < 4294967296) ∧ w' = w := by
  go_enter Tryz.func350, Tryz.ntmps350
  go_wp2
  go_ret
  exact ⟨_, rfl, ⟨(bits_u32 _ _ _).1, Int.lt_of_le_of_lt (bits_u32 _ _ _).2 (by decide)⟩, rfl⟩
end Go.Proofs.YtdcioacjhpnihaaGreatDoor.Qn
namespace Go.Proofs.YtdcioacjhpnihaaGreatDoor.Qn
open Go Go.RowKit

set_option maxHeartbeats 1000000 in
theorem refName_any (s : ByteArray) (w : World) (hs : s.size ≤ maxLen) : Calls Tryz.prog 37 #[.string s] w fun e w' => e = .returned (.bool (name s.data.toList)) ∧ w = w' := by
  unfold maxLen at hs
  go_enter Tryz.func37, Tryz.ntmps37
  go_wp2
  go_loop [3] (fun i => ∃ k : Nat, k ≤ s.size ∧ i = .int .i64 k ∧ ∀ j (hj : j < s.size), j < k → good s[j] = true) (fun i => s.size - (intOf i).toNat)
  case atStart => exact ⟨0, Nat.zero_le _, rfl, fun j _ h => absurd h (by omega)⟩
  case round =>
    obtain ⟨k, hk, rfl, hg⟩ := hrel
    have HG : Hid (∀ j (hj : j < s.size), j < k → good s[j] = true) := hg
    clear hg
    by_cases hlt : k < s.size
    · by_cases h1 : s[k].toNat < 33
      · have HB : Hid (good s[k] = false) := by
          show good s[k] = false
          unfold good
          rw [decide_eq_false (by omega)]
          rfl
        go_wp2
        go_ret
        exact ⟨ret_bool (by rw [name_bad s k hlt HB.out]), rfl⟩
      · by_cases h2 : 126 < s[k].toNat
        · have HB : Hid (good s[k] = false) := by
            show good s[k] = false
            unfold good
            rw [decide_eq_false (show ¬ s[k].toNat ≤ 126 by omega)]
            simp
          go_wp2
          go_ret
          exact ⟨ret_bool (by rw [name_bad s k hlt HB.out]), rfl⟩
        · by_cases h3 : s[k].toNat = 47
          · have HB : Hid (good s[k] = false) := by
              show good s[k] = false
              unfold good
              simp [h3]
            go_wp2
            go_ret
            exact ⟨ret_bool (by rw [name_bad s k hlt HB.out]), rfl⟩
          · have HB : Hid (good s[k] = true) := by
              show good s[k] = true
              unfold good
              simp [h3]
              omega
            have h4 : ((s[k].toNat : Int) == 47) = false := by simp; omega
            go_wp2
            go_round
            case rel =>
              refine ⟨k + 1, by omega, by go_num, fun j hj hjk => ?_⟩
              by_cases e : j = k
              · subst e; exact HB.out
              · exact HG.out j hj (by omega)
            case measure => simp [intOf]; omega
    · have hall : ∀ j (hj : j < s.size), good s[j] = true := fun j hj => HG.out j hj (by omega)
      have HN := name_good s hall
      have HN' : Hid (name s.data.toList = (decide (1 ≤ s.size) && decide (s.size ≤ 16))) := HN
      clear HN hall
      by_cases h0 : 0 < s.size
      · by_cases h17 : s.size < 17
        · go_wp2
          go_ret
          refine ⟨ret_bool (HN'.out.trans ?_).symm, rfl⟩
          rw [Bool.eq_iff_iff]; simp; omega
        · go_wp2
          go_ret
          refine ⟨ret_bool (HN'.out.trans ?_).symm, rfl⟩
          rw [Bool.eq_iff_iff]; simp; omega
      · go_wp2
        go_ret
        exact ⟨ret_bool (by rw [HN'.out]; simp; omega), rfl⟩
theorem refName (b : ByteArray) (w : World) (hb : b.size ≤ 100) : Calls Tryz.prog 37 #[.string b] w fun e w' => e = .returned (.bool (nameL b.data.toList)) ∧ Below w.heap.size w w' := by
  refine (refName_any b w (by unfold maxLen; omega)).mono ?_
  rintro e w' ⟨rfl, rfl⟩
  rw [name_eq]
  exact ⟨rfl, Below.refl _ _⟩
end Go.Proofs.YtdcioacjhpnihaaGreatDoor.Qn
namespace Go.Proofs.YtdcioacjhpnihaaGreatDoor
open Go Go.RowKit
noncomputable section

def hvR : MR := ⟨498, .u32, hvs⟩
def fKeys : FuncId := 347
/-- the one, else the other -/
def orE (a b : Option (Value × AS)) : Option (Value × AS) := Option.rec (motive := fun _ => Option (Value × AS)) b some a
theorem orE_or {a b : Option (Value × AS)} {r : Value × AS} (h : orE a b = some r) : a = some r ∨ b = some r := by
  cases a with
  | none => exact .inr h
  | some q => exact .inl h
theorem crcN_lt (xs : List Nat) (h : ∀ x ∈ xs, x < 256) : crcN xs < 4294967296 := xor_lt (by decide) (crcL_n xs 4294967295 h (by decide)).2
def orc0 : ORC := fun f args s =>
  Bool.rec (motive := fun _ => Option (Value × AS)) (Bool.rec (motive := fun _ => Option (Value × AS)) (Bool.rec (motive := fun _ => Option (Value × AS)) (Bool.rec (motive := fun _ => Option (Value × AS)) (Bool.rec (motive := fun _ => Option (Value × AS)) (Bool.rec (motive := fun _ => Option (Value × AS)) (Bool.rec (motive := fun _ => Option (Value × AS)) (Bool.rec (motive := fun _ => Option (Value × AS)) none (xIns cfg0 9 args s) (Nat.beq f 370)) (xNext cfg0 157 args s) (Nat.beq f 299)) (xSort cfg0 3 fKeys args s) (Nat.beq f 274)) (xRep args s) (Nat.beq f 135)) (orE (xCrc 4 hvR args s) (xCrcM 4 hvR args s)) (Nat.beq f 351)) (xName args s) (Nat.beq f 37)) (xName args s) (Nat.beq f 52)) (xRev args s) (Nat.beq f 350)
def ext0 : ORC := fun f args s => Bool.rec (motive := fun _ => Option (Value × AS)) (Bool.rec (motive := fun _ => Option (Value × AS)) none (xIdx args s) (Nat.beq f 467)) (xSame args s) (Nat.beq f 368)
def quiet0 : FuncId → Bool := fun f => Nat.beq f 197 || Nat.beq f 50
def E0 : Env := ⟨cfg0, Tryz.prog, funT, orc0, ext0, quiet0⟩
theorem brec {α : Type} {b : Bool} {x y : Option α} {r : α} (h : (Bool.rec (motive := fun _ => Option α) x y b : Option α) = some r) : (b = true ∧ y = some r) ∨ x = some r := by
  cases b with
  | true => exact .inl ⟨rfl, h⟩
  | false => exact .inr h
theorem orc0_ok (f : FuncId) (args : List Value) (s : AS) (v : Value) (s' : AS) (h : orc0 f args s = some (v, s')) : (∀ args w, (callFunc f args).run Tryz.prog w = .ok (.enter f args) w) ∧ AnsOk Tryz.prog cfg0 f args s v s' := by
  unfold orc0 at h
  rcases brec h with ⟨h1, h⟩ | h
  · obtain rfl := Nat.eq_of_beq_eq_true h1
    exact ⟨enters0 (fn := Tryz.f350) (by kernel_rfl), xRev_ok Qn.revB h⟩
  rcases brec h with ⟨h1, h⟩ | h
  · obtain rfl := Nat.eq_of_beq_eq_true h1
    exact ⟨enters0 (fn := Tryz.f52) (by kernel_rfl), xName_ok Qn.pathName h⟩
  rcases brec h with ⟨h1, h⟩ | h
  · obtain rfl := Nat.eq_of_beq_eq_true h1
    exact ⟨enters0 (fn := Tryz.f37) (by kernel_rfl), xName_ok Qn.refName h⟩
  rcases brec h with ⟨h1, h⟩ | h
  · obtain rfl := Nat.eq_of_beq_eq_true h1
    refine ⟨enters0 (fn := Tryz.f351) (by kernel_rfl), ?_⟩
    rcases orE_or h with h | h
    · exact xCrc_ok rfl rfl (by decide) (fun A xs c w a1 a2 a3 a4 => sum_any A xs c w a1 a2 a3 a4) h
    · exact xCrcM_ok rfl rfl (by decide) (fun A xs c w a1 a2 a3 a4 => sum_any A xs c w a1 a2 a3 a4) crcN_lt h
  rcases brec h with ⟨h1, h⟩ | h
  · obtain rfl := Nat.eq_of_beq_eq_true h1
    exact ⟨enters0 (fn := Tryz.f135) (by kernel_rfl), xRep_ok rep_any h⟩
  rcases brec h with ⟨h1, h⟩ | h
  · obtain rfl := Nat.eq_of_beq_eq_true h1
    exact ⟨enters0 (fn := Tryz.f274) (by kernel_rfl), xSort_ok cfg0_ok sorted_any h⟩
  rcases brec h with ⟨h1, h⟩ | h
  · obtain rfl := Nat.eq_of_beq_eq_true h1
    exact ⟨enters0 (fn := Tryz.f299) (by kernel_rfl), xNext_ok cfg0_ok next_any h⟩
  rcases brec h with ⟨h1, h⟩ | h
  · obtain rfl := Nat.eq_of_beq_eq_true h1
    exact ⟨enters0 (fn := Tryz.f370) (by kernel_rfl), xIns_ok cfg0_ok ins1_any ins2_any h⟩
  · cases h
theorem E0_ok : E0.Ok where
  C := cfg0_ok
  mixed := by kernel_rfl
  fns f fn h := fun_ok (n := 12) fun_eq (by rw [fun_size]; decide) h
  orc f args s v s' h := orc0_ok f args s v s' h
  ext f args s v s' h ι w args' hr ha := by
    have h : ext0 f args s = some (v, s') := h
    unfold ext0 at h
    rcases brec h with ⟨h1, h⟩ | h
    · obtain rfl := Nat.eq_of_beq_eq_true h1
      exact xSame_ok ext_same h hr ha
    rcases brec h with ⟨h1, h⟩ | h
    · obtain rfl := Nat.eq_of_beq_eq_true h1
      exact xIdx_ok ext_idx h hr ha
    · cases h
  quiet f h := by
    have h' : (Nat.beq f 197 || Nat.beq f 50) = true := h
    rw [Bool.or_eq_true] at h'
    rcases h' with h1 | h1
    · obtain rfl := Nat.eq_of_beq_eq_true h1
      exact ⟨enters0 (fn := Tryz.f197) (by kernel_rfl), fun n w b => ends_tree n b w⟩
    · obtain rfl := Nat.eq_of_beq_eq_true h1
      exact ⟨enters0 (fn := Tryz.f50) (by kernel_rfl), fun n w b => ends_rename n b w⟩
/-! ### a commit, over what is known already -/
def orcC (E : Env) (N : Nat) : ORC := fun f args s => Bool.rec (motive := fun _ => Option (Value × AS)) none (xCommit (wCall E (wCode E N)) cF args s) (Nat.beq f 107)
theorem orcC_ok {E : Env} (hE : E.Ok) (hP : E.P = Tryz.prog) {N : Nat} (f : FuncId) (args : List Value) (s : AS) (v : Value) (s' : AS) (h : orcC E N f args s = some (v, s')) : CallOk E f args s v s' := by
  unfold orcC at h
  rcases brec h with ⟨h1, h⟩ | h
  · obtain rfl := Nat.eq_of_beq_eq_true h1
    refine ⟨?_, ?_⟩
    · rw [hP]
      exact enters0 (fn := Tryz.f107) (by kernel_rfl)
    · have := commit_any (C := E.C) (run := wCall E (wCode E N)) (fun f args s v s' h => by
        have h2 := (fCall_ok hE (fCode_ok hE N) _ _ _ _ _ (wCall_ok (wCode_ok hE.C N) _ _ _ _ h)).2
        rw [hP] at h2
        exact h2) h
      rw [hP]
      exact this
  · cases h
end
end Go.Proofs.YtdcioacjhpnihaaGreatDoor
namespace Go.Proofs.YtdcioacjhpnihaaGreatDoor
open Go Go.RowKit

theorem asserts (c : Int) (w : World) : (Instr.typeAssert (.iface 35 (.int .i64 c)) 20 35 true).run Tryz.prog w = .ok (.tuple #[.int .i64 c, .bool true]) w := by kernel_rfl
set_option maxHeartbeats 1000000 in
set_option maxRecDepth 20000 in
theorem ends_takes : TakesUp Tryz.prog 35 50 := by
  refine ⟨fun args w => by kernel_rfl, fun n c p w w' hst => ?_⟩
  obtain ⟨a, rfl⟩ : ∃ a, p = .pointer (some a) := by
    cases p <;> first | (simp [Instr.storeAt, Instr.sureAddr, go_sem] at hst; done) | skip
    rename_i o
    cases o with
    | none => simp [Instr.storeAt, Instr.sureAddr, go_sem] at hst
    | some a => exact ⟨a, rfl⟩
  refine (callsDIn_of_wpSIn (R := fun e u x => u = .panicking [⟨.iface 35 (.int .i64 c), true, false⟩] ∧ (e = .returned (.tuple #[]) ∧ x = w')) Tryz.func50 rfl trivial fun c₀ cs hu => ?_).mono ?_
  · apply wpSIn_seq
    apply wpSIn_region
    simp [wpOpsSIn, go_sem, recoverD, hu, thrown, Exit.thenS, Oper.about]
    apply wpSIn_seq
    apply wpSIn_region
    simp [wpOpsSIn, go_sem, Exit.thenS, Oper.about]
    refine wpSIn_cond (t := true) (by simp [Act.eval]) ?_
    simp only [if_true]
    apply wpSIn_seq
    apply wpSIn_region
    simp [wpOpsSIn, go_sem, Exit.thenS, Oper.about, asserts]
    apply wpSIn_seq
    apply wpSIn_seq
    apply wpSIn_region
    simp [wpOpsSIn, go_sem, Exit.thenS, Oper.about]
    refine wpSIn_cond (t := false) (by simp [Act.eval]) ?_
    simp only [Bool.false_eq_true, if_false]
    refine wpSIn_of_wpIn rfl (wpIn_skip ?_)
    simp only [Exit.thenS]
    apply wpSIn_region
    simp [wpOpsSIn, go_sem, Oper.about]
    simp [Instr.storeAt, go_sem] at hst
    rw [hst]
    cases c₀
    simp_all [bodyPostS, results, Tryz.results50]
  · rintro e u x ⟨rfl, rfl, rfl⟩
    exact ⟨rfl, ⟨_, rfl⟩, rfl⟩
end Go.Proofs.YtdcioacjhpnihaaGreatDoor
namespace Go.Proofs.YtdcioacjhpnihaaGreatDoor
open Go Go.RowKit
noncomputable section
theorem kR1 : keyB E0 502 1 = true := by kernel_rfl
theorem kR2 : keyB E0 502 2 = true := by kernel_rfl
theorem kR3 : keyB E0 502 3 = true := by kernel_rfl
theorem kR4 : keyB E0 502 4 = true := by kernel_rfl
theorem kR5 : keyB E0 502 5 = true := by kernel_rfl
theorem kR6 : keyB E0 502 6 = true := by kernel_rfl
theorem kR7 : keyB E0 502 7 = true := by kernel_rfl
theorem kR8 : keyB E0 502 8 = true := by kernel_rfl
theorem kR9 : keyB E0 502 9 = true := by kernel_rfl
theorem kR10 : keyB E0 502 10 = true := by kernel_rfl
theorem kR11 : keyB E0 502 11 = true := by kernel_rfl
theorem kR12 : keyB E0 502 12 = true := by kernel_rfl
theorem kR13 : keyB E0 502 13 = true := by kernel_rfl
theorem kR14 : keyB E0 502 14 = true := by kernel_rfl
theorem kR15 : keyB E0 502 15 = true := by kernel_rfl
theorem kR16 : keyB E0 502 16 = true := by kernel_rfl
theorem kR_ok : ∀ l, 1 ≤ l → l ≤ 16 → keyB E0 502 l = true
  | 0, h, _ => absurd h (by decide)
  | 1, _, _ => kR1
  | 2, _, _ => kR2
  | 3, _, _ => kR3
  | 4, _, _ => kR4
  | 5, _, _ => kR5
  | 6, _, _ => kR6
  | 7, _, _ => kR7
  | 8, _, _ => kR8
  | 9, _, _ => kR9
  | 10, _, _ => kR10
  | 11, _, _ => kR11
  | 12, _, _ => kR12
  | 13, _, _ => kR13
  | 14, _, _ => kR14
  | 15, _, _ => kR15
  | 16, _, _ => kR16
  | n + 17, _, h => absurd h (by omega)
theorem kS1 : keyB E0 70 1 = true := by kernel_rfl
theorem kS2 : keyB E0 70 2 = true := by kernel_rfl
theorem kS3 : keyB E0 70 3 = true := by kernel_rfl
theorem kS4 : keyB E0 70 4 = true := by kernel_rfl
theorem kS5 : keyB E0 70 5 = true := by kernel_rfl
theorem kS6 : keyB E0 70 6 = true := by kernel_rfl
theorem kS7 : keyB E0 70 7 = true := by kernel_rfl
theorem kS8 : keyB E0 70 8 = true := by kernel_rfl
theorem kS9 : keyB E0 70 9 = true := by kernel_rfl
theorem kS10 : keyB E0 70 10 = true := by kernel_rfl
theorem kS11 : keyB E0 70 11 = true := by kernel_rfl
theorem kS12 : keyB E0 70 12 = true := by kernel_rfl
theorem kS13 : keyB E0 70 13 = true := by kernel_rfl
theorem kS14 : keyB E0 70 14 = true := by kernel_rfl
theorem kS15 : keyB E0 70 15 = true := by kernel_rfl
theorem kS16 : keyB E0 70 16 = true := by kernel_rfl
theorem kS_ok : ∀ l, 1 ≤ l → l ≤ 16 → keyB E0 70 l = true
  | 0, h, _ => absurd h (by decide)
  | 1, _, _ => kS1
  | 2, _, _ => kS2
  | 3, _, _ => kS3
  | 4, _, _ => kS4
  | 5, _, _ => kS5
  | 6, _, _ => kS6
  | 7, _, _ => kS7
  | 8, _, _ => kS8
  | 9, _, _ => kS9
  | 10, _, _ => kS10
  | 11, _, _ => kS11
  | 12, _, _ => kS12
  | 13, _, _ => kS13
  | 14, _, _ => kS14
  | 15, _, _ => kS15
  | 16, _, _ => kS16
  | n + 17, _, h => absurd h (by omega)
theorem kN1 : nofB E0 113 1 = true := by kernel_rfl
theorem kN2 : nofB E0 113 2 = true := by kernel_rfl
theorem kN3 : nofB E0 113 3 = true := by kernel_rfl
theorem kN4 : nofB E0 113 4 = true := by kernel_rfl
theorem kN5 : nofB E0 113 5 = true := by kernel_rfl
theorem kN6 : nofB E0 113 6 = true := by kernel_rfl
theorem kN7 : nofB E0 113 7 = true := by kernel_rfl
theorem kN8 : nofB E0 113 8 = true := by kernel_rfl
theorem kN9 : nofB E0 113 9 = true := by kernel_rfl
theorem kN10 : nofB E0 113 10 = true := by kernel_rfl
theorem kN11 : nofB E0 113 11 = true := by kernel_rfl
theorem kN12 : nofB E0 113 12 = true := by kernel_rfl
theorem kN13 : nofB E0 113 13 = true := by kernel_rfl
theorem kN14 : nofB E0 113 14 = true := by kernel_rfl
theorem kN15 : nofB E0 113 15 = true := by kernel_rfl
theorem kN16 : nofB E0 113 16 = true := by kernel_rfl
theorem kN_ok : ∀ l, 1 ≤ l → l ≤ 16 → nofB E0 113 l = true
  | 0, h, _ => absurd h (by decide)
  | 1, _, _ => kN1
  | 2, _, _ => kN2
  | 3, _, _ => kN3
  | 4, _, _ => kN4
  | 5, _, _ => kN5
  | 6, _, _ => kN6
  | 7, _, _ => kN7
  | 8, _, _ => kN8
  | 9, _, _ => kN9
  | 10, _, _ => kN10
  | 11, _, _ => kN11
  | 12, _, _ => kN12
  | 13, _, _ => kN13
  | 14, _, _ => kN14
  | 15, _, _ => kN15
  | 16, _, _ => kN16
  | n + 17, _, h => absurd h (by omega)
def orcK : ORC := fun f args s => Bool.rec (motive := fun _ => Option (Value × AS)) (Bool.rec (motive := fun _ => Option (Value × AS)) (Bool.rec (motive := fun _ => Option (Value × AS)) none (xNof args s) (Nat.beq f 113)) (xKey args s) (Nat.beq f 70)) (xKey args s) (Nat.beq f 502)
theorem orcK_ok (f : FuncId) (args : List Value) (s : AS) (v : Value) (s' : AS) (h : orcK f args s = some (v, s')) : CallOk E0 f args s v s' := by
  unfold orcK at h
  rcases brec h with ⟨h1, h⟩ | h
  · obtain rfl := Nat.eq_of_beq_eq_true h1
    exact ⟨enters0 (fn := Tryz.f502) (by kernel_rfl), xKey_ok E0_ok (by decide) kR_ok h⟩
  rcases brec h with ⟨h1, h⟩ | h
  · obtain rfl := Nat.eq_of_beq_eq_true h1
    exact ⟨enters0 (fn := Tryz.f70) (by kernel_rfl), xKey_ok E0_ok (by decide) kS_ok h⟩
  rcases brec h with ⟨h1, h⟩ | h
  · obtain rfl := Nat.eq_of_beq_eq_true h1
    exact ⟨enters0 (fn := Tryz.f113) (by kernel_rfl), xNof_ok E0_ok (by decide) kN_ok h⟩
  · cases h
def E0k : Env := E0.more orcK
theorem E0k_ok : E0k.Ok := E0_ok.more orcK_ok
end
end Go.Proofs.YtdcioacjhpnihaaGreatDoor
namespace Go.Proofs.YtdcioacjhpnihaaGreatDoor
open Go Go.RowKit
noncomputable section

def hotB (f : FuncId) : Bool := ([504, 499, 500, 489, 505, 501, 495, 496, 497, 498, 503] : List Nat).any (Nat.beq f)
def orcH (E : Env) : ORC := fun f args s => Bool.rec (motive := fun _ => Option (Value × AS)) none (wCall E (wCode E 1000000) f args s) (hotB f)
theorem orcH_ok {E : Env} (hE : E.Ok) (f : FuncId) (args : List Value) (s : AS) (v : Value) (s' : AS) (h : orcH E f args s = some (v, s')) : CallOk E f args s v s' := by
  unfold orcH at h
  rcases brec h with ⟨_, h⟩ | h
  · exact fCall_ok hE (fCode_ok hE 1000000) _ _ _ _ _ (wCall_ok (wCode_ok hE.C 1000000) _ _ _ _ h)
  · cases h
def Eh (E : Env) : Env := E.more (orcH E)
theorem Eh_ok {E : Env} (hE : E.Ok) : (Eh E).Ok := hE.more (orcH_ok hE)
def orcA (E : Env) : ORC := fun f args s => Bool.rec (motive := fun _ => Option (Value × AS)) none
  (orE (fCall (Eh E) (fCode (Eh E) 200) f args s) (tCall (Eh E) 35 (fCode (Eh E) 200) (pDeep (Eh E) 35 (fCode (Eh E) 200) 200 4) 200 50 f args s)) (Nat.beq f 22)
theorem orcA_ok {E : Env} (hE : E.Ok) (hP : E.P = Tryz.prog) (f : FuncId) (args : List Value) (s : AS) (v : Value) (s' : AS) (h : orcA E f args s = some (v, s')) : CallOk E f args s v s' := by
  unfold orcA at h
  have hx := fCode_ok (Eh_ok hE) 200
  rcases brec h with ⟨_, h⟩ | h
  · rcases orE_or h with h | h
    · exact fCall_ok (E := Eh E) (Eh_ok hE) hx _ _ _ _ _ h
    · exact tCall_ok (E := Eh E) (Eh_ok hE) hx (pDeep_ok (Eh_ok hE) hx 4) (hP ▸ ends_takes) h
  · cases h
end
end Go.Proofs.YtdcioacjhpnihaaGreatDoor
