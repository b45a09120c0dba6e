/- Short words for values; the rows of bytes that the memos name. A run that answers in the memory of the tables alone does so in any world whose tables are laid. A run in the memory of the tables and of the map of functions, with symbols for two names: it says what comes in any world whose tables are laid. Symbols for names: what they stand for. RenameOne answers true whatever it is given, if its runs do. The map of functions in memory, out of what the row says of it: four entries, in whatever order. -/
import Derived.Test.YtdcioacjhpnihaaGreatDoorQ12
import Derived.LaidHandle
import Derived.LaidSub
import Derived.ChangeAnyMap
import Derived.WideShapes
set_option linter.all false
namespace Go.Proofs.YtdcioacjhpnihaaGreatDoor
open Go
noncomputable section
abbrev tt : Value := .bool true
abbrev ff : Value := .bool false
abbrev I (n : Nat) : Value := .int .i64 (.ofNat n)
abbrev U (n : Nat) : Value := .int .u64 (.ofNat n)
def mapU : List Nat → List UInt8 := List.rec (motive := fun _ => List UInt8) [] (fun n _ ih => UInt8.ofNat n :: ih)
abbrev St (l : List Nat) : Value := .string ⟨⟨mapU l⟩⟩
abbrev e0 : Value := .string ⟨⟨[]⟩⟩
abbrev p0 : Value := .pointer none
abbrev s0 : Value := .slice none 0 0
abbrev f0 : Value := .nilFunc
abbrev i0 : Value := .nilIface
abbrev Pt (k o : Nat) : Value := .pointer (some ⟨k, o, none⟩)
abbrev Sx (k o n c : Nat) : Value := .slice (some ⟨k, o, none⟩) n c
abbrev Sg (k o q n c : Nat) : Value := .slice (some ⟨k, o, some q⟩) n c
abbrev Mp (k : Nat) : Value := .map (some k)
abbrev Fn (f : FuncId) (b c : List Value) : Value := .func (.func f) ⟨b⟩ ⟨c⟩
abbrev Ag (l : List Value) : Value := .agg ⟨l⟩
abbrev Tu (l : List Value) : Value := .tuple ⟨l⟩
/-- noughts behind -/
def padN (l : List Nat) (n : Nat) : List Nat := List.rec (motive := fun _ => List Nat) (List.replicate n 0) (fun x _ ih => x :: ih) l
def shaK : List Nat := [0x428a2f98, 0x71374491, 0xb5c0fbcf, 0xe9b5dba5, 0x3956c25b, 0x59f111f1, 0x923f82a4, 0xab1c5ed5, 0xd807aa98, 0x12835b01, 0x243185be, 0x550c7dc3, 0x72be5d74, 0x80deb1fe, 0x9bdc06a7, 0xc19bf174, 0xe49b69c1, 0xefbe4786, 0x0fc19dc6, 0x240ca1cc, 0x2de92c6f, 0x4a7484aa, 0x5cb0a9dc, 0x76f988da, 0x983e5152, 0xa831c66d, 0xb00327c8, 0xbf597fc7, 0xc6e00bf3, 0xd5a79147, 0x06ca6351, 0x14292967, 0x27b70a85, 0x2e1b2138, 0x4d2c6dfc, 0x53380d13, 0x650a7354, 0x766a0abb, 0x81c2c92e, 0x92722c85, 0xa2bfe8a1, 0xa81a664b, 0xc24b8b70, 0xc76c51a3, 0xd192e819, 0xd6990624, 0xf40e3585, 0x106aa070, 0x19a4c116, 0x1e376c08, 0x2748774c, 0x34b0bcb5, 0x391c0cb3, 0x4ed8aa4a, 0x5b9cca4f, 0x682e6ff3, 0x748f82ee, 0x78a5636f, 0x84c87814, 0x8cc70208, 0x90befffa, 0xa4506ceb, 0xbef9a3f7, 0xc67178f2]
def shaF : List Nat := [0x6a09e667, 0xbb67ae85, 0x3c6ef372, 0xa54ff53a, 0x510e527f, 0x9b05688c, 0x1f83d9ab, 0x5be0cd19]
def dbr : List Nat := [0, 1, 56, 2, 57, 49, 28, 3, 61, 58, 42, 50, 38, 29, 17, 4, 62, 47, 59, 36, 45, 43, 51, 22, 53, 39, 33, 30, 24, 18, 12, 5, 63, 55, 48, 27, 60, 41, 37, 16, 46, 35, 44, 21, 52, 32, 23, 11, 54, 26, 40, 15, 34, 20, 31, 10, 25, 14, 19, 9, 13, 8, 7, 6]
def gFirst : Nat × MR := (1, ⟨421, .u32, shaF⟩)
def gHalves : Nat × MR := (4, hvR)
def gK : Nat × MR := (2, ⟨52, .u32, shaK⟩)
def gBr : Obj := .cells ⟨ints .u8 dbr⟩ 520 (0, 0)
def n0 : List Nat := (padN [] 512)
def r0 : List Value := ints .u8 n0
abbrev t0 : List Nat := n0
def n2 : List Nat := (padN [1] 511)
def r2 : List Value := ints .u8 n2
abbrev t2 : List Nat := n2
def n5 : List Nat := [0, 0, 0, 0, 0, 0, 0, 1, 1, 1, 241, 0, 0, 3, 0, 0, 0, 0, 0, 0, 0, 0, 0, 0, 0, 0, 0, 0, 0, 0, 0, 0, 0, 0, 0, 0, 0, 0, 0, 0, 0, 0, 0, 0, 0, 0, 0, 0, 0, 0, 0, 0, 0, 0, 0, 0, 0, 0, 0, 0, 0, 0, 0, 0, 0, 0, 0, 0, 0, 0, 0, 0, 0, 0, 0, 0, 0, 0, 0, 0, 0, 0, 0, 0, 0, 0, 0, 0, 0, 0, 0, 0, 0, 0, 0, 0, 0, 0, 0, 0, 0, 0, 0, 0, 0, 0, 0, 0, 0, 0, 0, 0, 0, 0, 0, 0, 0, 0, 0, 0, 0, 0, 0, 0, 0, 0, 0, 0, 0, 0, 0, 0, 0, 0, 0, 0, 0, 0, 0, 0, 0, 0, 0, 0, 0, 0, 0, 0, 0, 0, 0, 0, 0, 0, 0, 0, 0, 0, 0, 0, 0, 0, 0, 0, 0, 0, 0, 0, 0, 0, 0, 0, 0, 0, 0, 0, 0, 0, 0, 0, 0, 0, 0, 0, 0, 0, 0, 0, 0, 0, 0, 0, 0, 0, 0, 0, 0, 0, 0, 0, 0, 0, 0, 0, 0, 0, 0, 0, 0, 0, 0, 0, 0, 0, 0, 0, 0, 0, 0, 0, 0, 0, 0, 0, 0, 0, 0, 0, 0, 0, 0, 0, 0, 0, 0, 0, 0, 0, 0, 0, 0, 0, 0, 0, 0, 0, 0, 0, 0, 0, 0, 0, 0, 0, 0, 0, 0, 0, 0, 0, 0, 0, 0, 0, 0, 0, 0, 0, 0, 0, 0, 0, 0, 0, 0, 0, 0, 0, 0, 0, 0, 0, 0, 0, 0, 0, 0, 0, 0, 0, 0, 0, 0, 0, 0, 0, 0, 0, 0, 0, 0, 0, 0, 0, 0, 0, 0, 0, 0, 0, 0, 0, 0, 0, 0, 0, 0, 0, 0, 0, 0, 0, 0, 0, 0, 0, 0, 0, 0, 0, 0, 0, 0, 0, 0, 0, 0, 0, 0, 0, 0, 0, 0, 0, 0, 0, 0, 0, 0, 0, 0, 0, 0, 0, 0, 0, 0, 0, 0, 0, 0, 0, 0, 0, 0, 0, 0, 0, 0, 0, 0, 0, 0, 0, 0, 0, 0, 0, 0, 0, 0, 0, 0, 0, 0, 0, 0, 0, 0, 0, 0, 0, 0, 0, 0, 0, 0, 0, 0, 0, 0, 0, 0, 0, 0, 0, 0, 0, 0, 0, 0, 0, 0, 0, 0, 0, 0, 0, 0, 0, 0, 0, 0, 0, 0, 0, 0, 0, 0, 0, 0, 0, 0, 0, 0, 0, 0, 0, 0, 0, 0, 0, 0, 0, 0, 0, 0, 0, 0, 0, 0, 0, 0, 0, 0, 0, 0, 0, 0, 0, 0, 0, 0, 0, 0, 0, 0, 0, 0, 0, 0, 0, 0, 0, 0, 0, 0, 0, 0, 0, 0, 0, 0, 0, 0, 0, 0, 0, 0, 0, 0, 0, 0, 0, 0, 0, 0, 0, 0, 0, 0, 0, 0, 0, 0, 0, 0, 0, 162, 13, 207, 123]
abbrev t5 : List Nat := n5
def n6 : List Nat := [0, 0, 0, 0, 0, 0, 0, 2, 1, 1, 241, 0, 0, 0, 0, 0, 0, 0, 0, 0, 0, 0, 0, 0, 0, 0, 0, 0, 0, 1, 0, 0, 0, 0, 0, 0, 0, 0, 0, 0, 0, 0, 0, 0, 0, 0, 0, 0, 0, 0, 0, 0, 0, 0, 0, 0, 0, 0, 0, 0, 0, 0, 0, 0, 0, 0, 0, 0, 0, 0, 0, 0, 0, 0, 0, 0, 0, 0, 0, 0, 0, 0, 0, 0, 0, 0, 0, 0, 0, 0, 0, 0, 0, 0, 0, 0, 0, 0, 0, 0, 0, 0, 0, 0, 0, 0, 0, 0, 0, 0, 0, 0, 0, 0, 0, 0, 0, 0, 0, 0, 0, 0, 0, 0, 0, 0, 0, 0, 0, 0, 0, 0, 0, 0, 0, 0, 0, 0, 0, 0, 0, 0, 0, 0, 0, 0, 0, 0, 0, 0, 0, 0, 0, 0, 0, 0, 0, 0, 0, 0, 0, 0, 0, 0, 0, 0, 0, 0, 0, 0, 0, 0, 0, 0, 0, 0, 0, 0, 0, 0, 0, 0, 0, 0, 0, 0, 0, 0, 0, 0, 0, 0, 0, 0, 0, 0, 0, 0, 0, 0, 0, 0, 0, 0, 0, 0, 0, 0, 0, 0, 0, 0, 0, 0, 0, 0, 0, 0, 0, 0, 0, 0, 0, 0, 0, 0, 0, 0, 0, 0, 0, 0, 0, 0, 0, 0, 0, 0, 0, 0, 0, 0, 0, 0, 0, 0, 0, 0, 0, 0, 0, 0, 0, 0, 0, 0, 0, 0, 0, 0, 0, 0, 0, 0, 0, 0, 0, 0, 0, 0, 0, 0, 0, 0, 0, 0, 0, 0, 0, 0, 0, 0, 0, 0, 0, 0, 0, 0, 0, 0, 0, 0, 0, 0, 0, 0, 0, 0, 0, 0, 0, 0, 0, 0, 0, 0, 0, 0, 0, 0, 0, 0, 0, 0, 0, 0, 0, 0, 0, 0, 0, 0, 0, 0, 0, 0, 0, 0, 0, 0, 0, 0, 0, 0, 0, 0, 0, 0, 0, 0, 0, 0, 0, 0, 0, 0, 0, 0, 0, 0, 0, 0, 0, 0, 0, 0, 0, 0, 0, 0, 0, 0, 0, 0, 0, 0, 0, 0, 0, 0, 0, 0, 0, 0, 0, 0, 0, 0, 0, 0, 0, 0, 0, 0, 0, 0, 0, 0, 0, 0, 0, 0, 0, 0, 0, 0, 0, 0, 0, 0, 0, 0, 0, 0, 0, 0, 0, 0, 0, 0, 0, 0, 0, 0, 0, 0, 0, 0, 0, 0, 0, 0, 0, 0, 0, 0, 0, 0, 0, 0, 0, 0, 0, 0, 0, 0, 0, 0, 0, 0, 0, 0, 0, 0, 0, 0, 0, 0, 0, 0, 0, 0, 0, 0, 0, 0, 0, 0, 0, 0, 0, 0, 0, 0, 0, 0, 0, 0, 0, 0, 0, 0, 0, 0, 0, 0, 0, 0, 0, 0, 0, 0, 0, 0, 0, 0, 0, 0, 0, 0, 0, 0, 0, 0, 0, 0, 0, 0, 0, 0, 0, 0, 0, 0, 0, 0, 0, 0, 186, 35, 21, 77]
abbrev t6 : List Nat := n6
def n7 : List Nat := [0, 0, 0, 0, 0, 0, 0, 3, 2, 0, 34, 0, 0, 0, 0, 0, 0, 0, 0, 0, 0, 0, 0, 0, 0, 0, 0, 0, 0, 0, 0, 0, 0, 0, 0, 0, 0, 0, 0, 0, 0, 0, 0, 0, 0, 0, 0, 0, 0, 0, 0, 0, 0, 0, 0, 0, 0, 0, 0, 0, 0, 0, 0, 0, 0, 0, 0, 0, 0, 0, 0, 0, 0, 0, 0, 0, 0, 0, 0, 0, 0, 0, 0, 0, 0, 0, 0, 0, 0, 0, 0, 0, 0, 0, 0, 0, 0, 0, 0, 0, 0, 0, 0, 0, 0, 0, 0, 0, 0, 0, 0, 0, 0, 0, 0, 0, 0, 0, 0, 0, 0, 0, 0, 0, 0, 0, 0, 0, 0, 0, 0, 0, 0, 0, 0, 0, 0, 0, 0, 0, 0, 0, 0, 0, 0, 0, 0, 0, 0, 0, 0, 0, 0, 0, 0, 0, 0, 0, 0, 0, 0, 0, 0, 0, 0, 0, 0, 0, 0, 0, 0, 0, 0, 0, 0, 0, 0, 0, 0, 0, 0, 0, 0, 0, 0, 0, 0, 0, 0, 0, 0, 0, 0, 0, 0, 0, 0, 0, 0, 0, 0, 0, 0, 0, 0, 0, 0, 0, 0, 0, 0, 0, 0, 0, 0, 0, 0, 0, 0, 0, 0, 0, 0, 0, 0, 0, 0, 0, 0, 0, 0, 0, 0, 0, 0, 0, 0, 0, 0, 0, 0, 0, 0, 0, 0, 0, 0, 0, 0, 0, 0, 0, 0, 0, 0, 0, 0, 0, 0, 0, 0, 0, 0, 0, 0, 0, 0, 0, 0, 0, 0, 0, 0, 0, 0, 0, 0, 0, 0, 0, 0, 0, 0, 0, 0, 0, 0, 0, 0, 0, 0, 0, 0, 0, 0, 0, 0, 0, 0, 0, 0, 0, 0, 0, 0, 0, 0, 0, 0, 0, 0, 0, 0, 0, 0, 0, 0, 0, 0, 0, 0, 0, 0, 0, 0, 0, 0, 0, 0, 0, 0, 0, 0, 0, 0, 0, 0, 0, 0, 0, 0, 0, 0, 0, 0, 0, 0, 0, 0, 0, 0, 0, 0, 0, 0, 0, 0, 0, 0, 0, 0, 0, 0, 0, 0, 0, 0, 0, 0, 0, 0, 0, 0, 0, 0, 0, 0, 0, 0, 0, 0, 0, 0, 0, 0, 0, 0, 0, 0, 0, 0, 0, 0, 0, 0, 0, 0, 0, 0, 0, 0, 0, 0, 0, 0, 0, 0, 0, 0, 0, 0, 0, 0, 0, 0, 0, 0, 0, 0, 0, 0, 0, 0, 0, 0, 0, 0, 0, 0, 0, 0, 0, 0, 0, 0, 0, 0, 0, 0, 0, 0, 0, 0, 0, 0, 0, 0, 0, 0, 0, 0, 0, 0, 0, 0, 0, 0, 0, 0, 0, 0, 0, 0, 0, 0, 0, 0, 0, 0, 0, 0, 0, 0, 0, 0, 0, 0, 0, 0, 0, 0, 0, 0, 0, 0, 0, 0, 0, 0, 0, 0, 0, 0, 0, 0, 0, 0, 0, 0, 0, 0, 0, 0, 0, 0, 0, 0, 0, 117, 31, 245, 59]
abbrev t7 : List Nat := n7
def n8 : List Nat := (padN [0, 0, 3] 494)
abbrev t8 : List Nat := n8
def n9 : List Nat := (padN [0, 0, 0, 0, 0, 0, 0, 0, 0, 0, 0, 0, 0, 0, 0, 0, 0, 0, 1] 478)
abbrev t9 : List Nat := n9
def n10 : List Nat := (padN [] 34)
abbrev t10 : List Nat := n10
def n12 : List Nat := (padN [3] 511)
abbrev t12 : List Nat := n12
def n18 : List Nat := (padN [7] 511)
abbrev t18 : List Nat := n18
def n21 : List Nat := [1, 104, 105]
abbrev t21 : List Nat := n21
def n22 : List Nat := [95, 171, 18, 114, 42, 139, 165, 170, 239, 12, 43, 110, 124, 4, 24, 52, 253, 187, 34, 177, 54, 173, 80, 145, 59, 106, 46, 106, 195, 185, 116, 170]
def r22 : List Value := ints .u8 n22
abbrev t22 : List Nat := n22
def n23 : List Nat := (padN [15] 511)
abbrev t23 : List Nat := n23
def n24 : List Nat := (padN [31] 511)
abbrev t24 : List Nat := n24
def n25 : List Nat := (padN [63] 511)
abbrev t25 : List Nat := n25
def n35 : List Nat := (padN [127] 511)
abbrev t35 : List Nat := n35
def n44 : List Nat := (padN [123] 511)
abbrev t44 : List Nat := n44
def n54 : List Nat := [1, 104, 111]
abbrev t54 : List Nat := n54
def n55 : List Nat := [196, 233, 31, 212, 37, 251, 137, 69, 79, 97, 235, 242, 71, 22, 166, 43, 125, 201, 29, 219, 4, 27, 115, 24, 102, 59, 216, 196, 218, 190, 178, 248]
def r55 : List Value := ints .u8 n55
abbrev t55 : List Nat := n55
def n67 : List Nat := (padN [255] 511)
abbrev t67 : List Nat := n67
def n78 : List Nat := (padN [59] 511)
abbrev t78 : List Nat := n78
end
end Go.Proofs.YtdcioacjhpnihaaGreatDoor
namespace Go.Proofs.YtdcioacjhpnihaaGreatDoor
open Go Go.RowKit
noncomputable section
/-- the tables, as the memory has them at the start -/
def gL : ML := [(1, gFirst.2.obj), (2, gK.2.obj), (3, gBr), (4, gHalves.2.obj)]
theorem gL_row : ∀ k o, (k, o) ∈ gL → k < 8 ∧ ∃ c e, o = .cells c e (0, 0) ∧ (∀ v ∈ c.toList, flat1 v = true) ∧ ¬ Tryz.prog.underlying e = some (.int .u8) := by
  intro k o h
  unfold gL at h
  simp only [List.mem_cons, List.not_mem_nil, or_false, Prod.mk.injEq] at h
  rcases h with ⟨rfl, rfl⟩ | ⟨rfl, rfl⟩ | ⟨rfl, rfl⟩ | ⟨rfl, rfl⟩
  · exact ⟨by decide, ⟨ints .u32 shaF⟩, 421, rfl, fun v hv => ints_flat (kd := .u32) shaF v hv, fun h => by rw [Tryz.underlying421] at h; cases h⟩
  · exact ⟨by decide, ⟨ints .u32 shaK⟩, 52, rfl, fun v hv => ints_flat (kd := .u32) shaK v hv, fun h => by rw [Tryz.underlying52] at h; cases h⟩
  · exact ⟨by decide, ⟨ints .u8 dbr⟩, 520, rfl, fun v hv => ints_flat (kd := .u8) dbr v hv, fun h => by rw [Tryz.underlying520] at h; cases h⟩
  · exact ⟨by decide, ⟨ints .u32 hvs⟩, 498, rfl, fun v hv => ints_flat (kd := .u32) hvs v hv, fun h => by rw [Tryz.underlying498] at h; cases h⟩
theorem flat_row {P : Program} {ι : Emb} {c : Array Value} {e : TypeId} {o' : Obj} (hf : ∀ v ∈ c.toList, flat1 v = true) (hu : ¬ P.underlying e = some (.int .u8)) (h : objR P ι 0 (.cells c e (0, 0)) o') : o' = .cells c e (0, 0) := by
  cases o' with
  | cells c' e' fr' =>
    obtain ⟨rfl, hfr, hs, hv⟩ := h
    have h1 : fr' = (0, 0) := hfr.2.resolve_right fun q => hu q.2
    rw [Nat.zero_mul, Nat.add_zero] at hs
    have h2 : c' = c := Array.ext hs fun i a b => VR.flat_eq (hf _ (by rw [← Array.getElem_toList b]; exact List.getElem_mem _)) (hv i b a)
    rw [h1, h2]
  | _ => exact h.elim
end
end Go.Proofs.YtdcioacjhpnihaaGreatDoor
namespace Go.Proofs.YtdcioacjhpnihaaGreatDoor
open Go Go.RowKit
noncomputable section

def dTy : TypeId := 146
def dRow : Obj := .cells ⟨[.map (some 15)]⟩ dTy (0, 0)
def gR : ML := (0, dRow) :: gL
def gsR : AS := ⟨putM gR .leaf, 100⟩
structure TabR (bD : Nat) (W : World) : Prop where
  sz : 8 ≤ W.heap.size
  tab : ∀ k o, (k, o) ∈ gL → W.heap[k]? = some o
  does : W.heap[(0 : Nat)]? = some (.cells ⟨[.map (some bD)]⟩ dTy (0, 0))
  map : ∃ es c, W.heap[bD]? = some (.map es c) ∧ doesOk Tryz.prog es
def ioR (bD : Nat) (X : Nat → Nat) : Emb := ⟨fun k => if k < 8 then some k else if k = 15 then some bD else if 20 ≤ k ∧ k < 60 then some 0 else none, fun k => if k < 20 then 0 else X k⟩
theorem gR_lt : ∀ x ∈ gR, x.1 < 8 := by
  intro x hx
  rcases List.mem_cons.1 hx with rfl | hx
  · show (0 : Nat) < 8
    decide
  · exact (gL_row x.1 x.2 hx).1
theorem gR_get {k : Nat} {o : Obj} (h : gsR.mem.get k = some o) : (k, o) ∈ gR := putM_mem (l := gR) (fun x hx => by
  have := gR_lt x hx
  omega) h
theorem ioR_lo {bD : Nat} {X : Nat → Nat} {k : Nat} (h : k < 8) : (ioR bD X).b k = some k ∧ (ioR bD X).x k = 0 := ⟨if_pos h, if_pos (by omega)⟩
theorem ioR_15 (bD : Nat) (X : Nat → Nat) : (ioR bD X).b 15 = some bD := by simp [ioR]
theorem repR {bD : Nat} {W : World} (h : TabR bD W) (X : Nat → Nat) : Rep Tryz.prog 8 (ioR bD X) gsR.mem W where
  obj k o ho := by
    have hm := gR_get ho
    have hk := ioR_lo (bD := bD) (X := X) (gR_lt _ hm)
    refine ⟨k, ?_⟩
    rcases List.mem_cons.1 hm with e | hm
    · cases e
      refine ⟨_, hk.1, h.does, ?_⟩
      rw [hk.2]
      refine ⟨rfl, ⟨fun i _ => by simp, .inl rfl⟩, by simp, fun i a b => ?_⟩
      match i, a with
      | 0, _ => exact .map (ioR_15 bD X)
    · obtain ⟨_, c, e, rfl, hf, _⟩ := gL_row k o hm
      refine ⟨_, hk.1, h.tab _ _ hm, ?_⟩
      rw [hk.2]
      exact ⟨rfl, ⟨fun i _ => by simp, .inl rfl⟩, by simp, fun i a b => VR.flat1 _ (hf _ (by rw [← Array.getElem_toList a]; exact List.getElem_mem _))⟩
  inj i k b hi hk h1 h2 := by
    obtain ⟨oi, hoi⟩ := Option.ne_none_iff_exists'.1 hi
    obtain ⟨ok, hok⟩ := Option.ne_none_iff_exists'.1 hk
    rw [(ioR_lo (gR_lt _ (gR_get hoi))).1] at h1
    rw [(ioR_lo (gR_lt _ (gR_get hok))).1] at h2
    cases h1; cases h2; rfl
  new k hk := by
    have hk : 100 ≤ k := hk
    show (if k < 8 then some k else if k = 15 then some bD else if 20 ≤ k ∧ k < 60 then some 0 else none) = none
    rw [if_neg (by omega), if_neg (by omega), if_neg (by omega)]
  glob g hg := if_pos hg
  inv := ⟨show 15 < 100 by decide, fun b hb => by
    rw [ioR_15] at hb
    cases hb
    refine ⟨fun k hk hkb => ?_, h.map⟩
    obtain ⟨o, ho⟩ := Option.ne_none_iff_exists'.1 hk
    have hm := gR_get ho
    rw [(ioR_lo (gR_lt _ hm)).1] at hkb
    cases hkb
    obtain ⟨es, c, h1, _⟩ := h.map
    rcases List.mem_cons.1 hm with e | hm
    · cases e
      rw [h.does] at h1
      cases h1
    · obtain ⟨_, c, e, rfl, _, _⟩ := gL_row k o hm
      rw [h.tab _ _ hm] at h1
      cases h1⟩
def runR (E : Env) (f : FuncId) (args : List Value) (v : Value) : Bool := Option.rec (motive := fun _ => Bool) false (fun r => Prod.rec (motive := fun _ => Bool) (fun u s => Bool.rec (motive := fun _ => Bool) false (holds s gR) (veqA u v)) r) (wCall E (wCode E 1000000) f args gsR)
theorem runR_any {E : Env} (hE : E.Ok) (hP : E.P = Tryz.prog) (hG : E.C.G = 8) {f : FuncId} {args args' : List Value} {v : Value} (hB : runR E f args v = true) (hv2 : flat2 v = true) {bD : Nat} {W : World} (h : TabR bD W) (X : Nat → Nat) (ha : VRl (ioR bD X) args args') :
    Calls Tryz.prog f args'.toArray W fun e w' => e = .returned v ∧ Below W.heap.size W w' := by
  unfold runR at hB
  cases hrun : wCall E (wCode E 1000000) f args gsR with
  | none => rw [hrun] at hB; cases hB
  | some r =>
    rw [hrun] at hB
    obtain ⟨u, s'⟩ := r
    obtain ⟨h1, h2⟩ := bbrec hB
    have hv := veq_ok 8 _ _ (veqA_ok h1)
    subst hv
    have hh := holds_ok h2
    have hc := (fCall_ok hE (fCode_ok hE 1000000) _ _ _ _ _ (wCall_ok (wCode_ok hE.C 1000000) _ _ _ _ hrun)).2
    rw [hP, hG] at hc
    refine (hc (ioR bD X) W args' (repR h X) ha).mono ?_
    rintro e w' ⟨ι', v', rfl, ht, hv'⟩
    rw [VR.flat2E hv2 hv']
    refine ⟨rfl, ht.os, ht.tape, ht.output, ht.size, fun j hj => ?_⟩
    by_cases hm : ∃ o, (j, o) ∈ gR
    · obtain ⟨o, hm⟩ := hm
      have hk := ioR_lo (bD := bD) (X := X) (gR_lt _ hm)
      obtain ⟨b, o', hb, hw, hr⟩ := ht.rep.obj j _ (hh _ hm)
      obtain ⟨l1, l2⟩ := ht.le j j hk.1
      rw [l1] at hb
      cases hb
      have hx : ι'.x j = 0 := l2.trans hk.2
      rw [hx] at hr
      rcases List.mem_cons.1 hm with e | hm
      · cases e
        rw [hw, h.does]
        cases o' with
        | cells c' e' fr' =>
          obtain ⟨rfl, hfr, hs, hvv⟩ := hr
          have h1 : fr' = (0, 0) := hfr.2.resolve_right fun q => by
            have := q.2
            rw [show dTy = 146 from rfl, Tryz.underlying146] at this
            cases this
          subst h1
          have hs : c'.size = 1 := by simpa using hs
          have h0 := hvv 0 (by simp) (by omega)
          have h0 : VR ι' (.map (some 15)) c'[0] := h0
          have e15 := (ht.le 15 bD (ioR_15 bD X)).1
          have e0 : c'[0] = .map (some bD) := by
            generalize c'[0] = y at h0
            cases h0 with
            | map hb => rw [e15] at hb; cases hb; rfl
          congr 2
          refine Array.ext (by simpa using hs) fun i a b => ?_
          have : i = 0 := by omega
          subst this
          exact e0
        | _ => exact hr.elim
      · obtain ⟨_, c, e, rfl, hf, hu⟩ := gL_row j o hm
        rw [hw, h.tab _ _ hm, flat_row hf hu hr]
    · refine ht.keep j hj fun k hk hb => ?_
      obtain ⟨o, ho⟩ := Option.ne_none_iff_exists'.1 hk
      have hm2 := gR_get ho
      rw [(ioR_lo (gR_lt _ hm2)).1] at hb
      cases hb
      exact hm ⟨o, hm2⟩
end
end Go.Proofs.YtdcioacjhpnihaaGreatDoor
namespace Go.Proofs.YtdcioacjhpnihaaGreatDoor
open Go Go.RowKit
noncomputable section

/-- a name's 17 numbers -/
def numN (l : List UInt8) (i : Nat) : Nat := if i < 16 then (l.getD i 0).toNat else l.length
theorem numN_symN {ι : Emb} {c : Nat} {l : List UInt8} (hl : l.length ≤ 16) (h : ∀ i, i < 17 → ι.x (c % 1000 + i) = numN l i) : symN ι c = l ∧ symLen ι c = l.length := by
  have h2 : symLen ι c = l.length := by
    unfold symLen
    rw [h 16 (by decide)]
    rfl
  refine ⟨?_, h2⟩
  unfold symN
  rw [h2]
  refine List.ext_getElem (by simp [symL]; omega) fun i h1 h3 => ?_
  rw [List.getElem_take]
  unfold symL
  rw [List.getElem_map, List.getElem_range, h i (by omega)]
  unfold numN
  rw [if_pos (by omega), List.getD_eq_getElem?_getD, List.getElem?_eq_getElem h3]
  simp
theorem nameL_len {l : List UInt8} (h : nameL l = true) : 1 ≤ l.length ∧ l.length ≤ 16 ∧ ∀ b ∈ l, goodB b.toNat = true := by
  unfold nameL at h
  rw [Bool.and_eq_true, Bool.and_eq_true] at h
  exact ⟨Nat.le_of_ble_eq_true h.1.1, Nat.le_of_ble_eq_true h.1.2, fun b hb => List.all_eq_true.1 h.2 b hb⟩
theorem numN_fact {ι : Emb} {c : Nat} {l : List UInt8} (hn : nameL l = true) (h : ∀ i, i < 17 → ι.x (c % 1000 + i) = numN l i) (hb : ∀ i, i < 17 → ∃ b, ι.b (c % 1000 + i) = some b) (hc : c < 8000) (h97 : l ≠ [97]) (h98 : l ≠ [98])
    (ho : ∀ n b, ordN (c / 1000 % 8) n = some b → Op.bytesLess l [UInt8.ofNat n] = b) : Fact ι c := by
  obtain ⟨h1, h2, h3⟩ := nameL_len hn
  obtain ⟨e1, e2⟩ := numN_symN h2 h
  refine ⟨by omega, hb, fun i hi => ?_, by rw [e2]; exact ⟨h1, h2⟩, fun i hi => ?_, fun i hi hi2 => ?_, fun n hn => ?_, fun n b hq => by rw [e1]; exact ho n b hq, fun hq => ?_⟩
  · rw [h i hi]
    unfold numN
    split
    · exact UInt8.toNat_lt _
    · omega
  · rw [e2] at hi
    rw [h i (by omega)]
    unfold numN
    rw [if_pos (by omega), List.getD_eq_getElem?_getD, List.getElem?_eq_getElem hi]
    exact h3 _ (List.getElem_mem hi)
  · rw [e2] at hi
    rw [h i (by omega)]
    unfold numN
    rw [if_pos hi2, List.getD_eq_getElem?_getD, List.getElem?_eq_none hi]
    rfl
  · rw [e1]
    rcases hn with rfl | rfl
    · exact h97
    · exact h98
  · exact absurd (Nat.div_eq_of_lt (by omega)) hq
/-- how a name stands to "a" and "b" -/
def rOf (l : List UInt8) : Nat := (if Op.bytesLess l [97] = true then 0 else 1) + (if Op.bytesLess l [98] = true then 0 else 2)
theorem rOf_ord (l : List UInt8) : ∀ n b, ordN (rOf l) n = some b → Op.bytesLess l [UInt8.ofNat n] = b := by
  intro n b h
  unfold ordN at h
  have hlt : rOf l < 4 := by unfold rOf; split <;> split <;> omega
  rw [if_pos hlt] at h
  unfold rOf at h
  split at h
  · rename_i e
    subst e
    cases h
    show Op.bytesLess l [97] = _
    cases Op.bytesLess l [97] <;> cases Op.bytesLess l [98] <;> rfl
  · split at h
    · rename_i e
      subst e
      cases h
      show Op.bytesLess l [98] = _
      cases Op.bytesLess l [97] <;> cases Op.bytesLess l [98] <;> rfl
    · cases h
theorem rOf_cases (l : List UInt8) : rOf l = 0 ∨ rOf l = 1 ∨ rOf l = 3 := by
  have key : Op.bytesLess l [97] = true → Op.bytesLess l [98] = true := by
    intro h
    cases l with
    | nil => rfl
    | cons x l =>
      simp only [Op.bytesLess] at h ⊢
      have h0 : x < 97 := by
        rw [Bool.and_false, Bool.or_false] at h
        exact of_decide_eq_true h
      have : x < 98 := by
        rw [UInt8.lt_iff_toNat_lt] at h0 ⊢
        exact Nat.lt_of_lt_of_le h0 (by decide)
      simp [this]
  unfold rOf
  cases h1 : Op.bytesLess l [97] with
  | true => rw [key h1]; exact .inl rfl
  | false => cases Op.bytesLess l [98] <;> simp
/-- both names' numbers -/
def numX (a b : List UInt8) (k : Nat) : Nat := if k < 37 then numN a (k - 20) else numN b (k - 40)
theorem symA {bD : Nat} {a b : ByteArray} {r : Nat} (hr : r < 8) (hn : nameL a.data.toList = true) (h97 : a.data.toList ≠ [97]) (h98 : a.data.toList ≠ [98]) (ho : ∀ n c, ordN r n = some c → Op.bytesLess a.data.toList [UInt8.ofNat n] = c) :
    VR (ioR bD (numX a.data.toList b.data.toList)) (.float .f64 (20 + 1000 * r)) (.string a) := by
  have hm : (20 + 1000 * r) % 1000 = 20 := by omega
  have hx : ∀ i, i < 17 → (ioR bD (numX a.data.toList b.data.toList)).x ((20 + 1000 * r) % 1000 + i) = numN a.data.toList i := fun i hi => by
    rw [hm]
    show (if 20 + i < 20 then 0 else numX a.data.toList b.data.toList (20 + i)) = _
    rw [if_neg (by omega)]
    unfold numX
    rw [if_pos (by omega), show 20 + i - 20 = i by omega]
  have hf := numN_fact hn hx (fun i hi => ⟨0, by
    rw [hm]
    show (if 20 + i < 8 then some (20 + i) else if 20 + i = 15 then some bD else if 20 ≤ 20 + i ∧ 20 + i < 60 then some 0 else none) = some 0
    rw [if_neg (by omega), if_neg (by omega), if_pos (by omega)]⟩) (by omega) h97 h98 (by rw [show (20 + 1000 * r) / 1000 % 8 = r by omega]; exact ho)
  have := VR.sym hf
  rw [(numN_symN (nameL_len hn).2.1 hx).1] at this
  exact this
theorem symB {bD : Nat} {a b : ByteArray} {r : Nat} (hr : r < 8) (hn : nameL b.data.toList = true) (h97 : b.data.toList ≠ [97]) (h98 : b.data.toList ≠ [98]) (ho : ∀ n c, ordN r n = some c → Op.bytesLess b.data.toList [UInt8.ofNat n] = c) :
    VR (ioR bD (numX a.data.toList b.data.toList)) (.float .f64 (40 + 1000 * r)) (.string b) := by
  have hm : (40 + 1000 * r) % 1000 = 40 := by omega
  have hx : ∀ i, i < 17 → (ioR bD (numX a.data.toList b.data.toList)).x ((40 + 1000 * r) % 1000 + i) = numN b.data.toList i := fun i hi => by
    rw [hm]
    show (if 40 + i < 20 then 0 else numX a.data.toList b.data.toList (40 + i)) = _
    rw [if_neg (by omega)]
    unfold numX
    rw [if_neg (by omega), show 40 + i - 40 = i by omega]
  have hf := numN_fact hn hx (fun i hi => ⟨0, by
    rw [hm]
    show (if 40 + i < 8 then some (40 + i) else if 40 + i = 15 then some bD else if 20 ≤ 40 + i ∧ 40 + i < 60 then some 0 else none) = some 0
    rw [if_neg (by omega), if_neg (by omega), if_pos (by omega)]⟩) (by omega) h97 h98 (by rw [show (40 + 1000 * r) / 1000 % 8 = r by omega]; exact ho)
  have := VR.sym hf
  rw [(numN_symN (nameL_len hn).2.1 hx).1] at this
  exact this
end
end Go.Proofs.YtdcioacjhpnihaaGreatDoor
namespace Go.Proofs.YtdcioacjhpnihaaGreatDoor
open Go Go.RowKit
noncomputable section

def anyV (k : Nat) : Value := .float .f64 (1000000 + k)
def sF (r : Nat) : Value := .float .f64 (20 + 1000 * r)
def sT (r : Nat) : Value := .float .f64 (40 + 1000 * r)
def bA : ByteArray := ⟨⟨[97]⟩⟩
def bB : ByteArray := ⟨⟨[98]⟩⟩
def la : Value := .string bA
def lb : Value := .string bB
def fRen : FuncId := 3
def pairsR : List (Value × Value) := [(anyV 0, anyV 0), (anyV 0, anyV 1), (anyV 1, anyV 0), (anyV 2, anyV 1), (anyV 3, anyV 2),
  (sF 0, la), (sF 0, lb), (sF 0, sT 7), (sF 1, la), (sF 1, lb), (sF 1, sT 7), (sF 3, la), (sF 3, lb), (sF 3, sT 7),
  (la, la), (la, lb), (la, sT 0), (la, sT 1), (la, sT 3), (lb, la), (lb, lb), (lb, sT 0), (lb, sT 1), (lb, sT 3)]
def RunsR : Prop := ∀ p ∈ pairsR, ∀ ov th, ∃ E : Env, E.Ok ∧ E.P = Tryz.prog ∧ E.C.G = 8 ∧ runR E fRen [p.1, p.2, .bool ov, .bool th] (.bool true) = true
theorem bs_eq {b c : ByteArray} (h : b.data.toList = c.data.toList) : b = c := ByteArray.ext (Array.ext' h)
theorem ren_any (H : RunsR) {bD : Nat} {W : World} (h : TabR bD W) (a b : ByteArray) (ov th : Bool) :
    Calls Tryz.prog fRen #[.string a, .string b, .bool ov, .bool th] W fun e w' => e = .returned (.bool true) ∧ Below W.heap.size W w' := by
  have key : ∀ F T, (F, T) ∈ pairsR → VR (ioR bD (numX a.data.toList b.data.toList)) F (.string a) → VR (ioR bD (numX a.data.toList b.data.toList)) T (.string b) →
      Calls Tryz.prog fRen #[.string a, .string b, .bool ov, .bool th] W fun e w' => e = .returned (.bool true) ∧ Below W.heap.size W w' := fun F T hm h1 h2 => by
    obtain ⟨E, hE, hP, hG, hr⟩ := H _ hm ov th
    exact runR_any hE hP hG hr rfl h _ (.cons h1 (.cons h2 (.cons (.bool ov) (.cons (.bool th) .nil))))
  by_cases ha : 100 < a.size
  · by_cases hb : 100 < b.size
    · exact key (anyV 0) (anyV 0) (by simp [pairsR]) (.any 0 a ha) (.any 0 b hb)
    · exact key (anyV 0) (anyV 1) (by simp [pairsR]) (.any 0 a ha) (.any 1 b (Nat.le_of_not_lt hb))
  · have ha := Nat.le_of_not_lt ha
    by_cases hb : 100 < b.size
    · exact key (anyV 1) (anyV 0) (by simp [pairsR]) (.any 1 a ha) (.any 0 b hb)
    · have hb := Nat.le_of_not_lt hb
      cases na : nameL a.data.toList with
      | false => exact key (anyV 2) (anyV 1) (by simp [pairsR]) (.any 2 a ⟨ha, na⟩) (.any 1 b hb)
      | true =>
        cases nb : nameL b.data.toList with
        | false => exact key (anyV 3) (anyV 2) (by simp [pairsR]) (.any 3 a na) (.any 2 b ⟨hb, nb⟩)
        | true =>
          -- what the second name may be, beside a known first
          have second : ∀ F, (F, la) ∈ pairsR → (F, lb) ∈ pairsR → (F, sT 0) ∈ pairsR → (F, sT 1) ∈ pairsR → (F, sT 3) ∈ pairsR → VR (ioR bD (numX a.data.toList b.data.toList)) F (.string a) → Calls Tryz.prog fRen #[.string a, .string b, .bool ov, .bool th] W fun e w' => e = .returned (.bool true) ∧ Below W.heap.size W w' := fun F m1 m2 m3 m4 m5 hF => by
            by_cases h97 : b.data.toList = [97]
            · have e : b = bA := bs_eq h97
              exact key F la m1 hF (by rw [e]; exact .string bA)
            by_cases h98 : b.data.toList = [98]
            · have e : b = bB := bs_eq h98
              exact key F lb m2 hF (by rw [e]; exact .string bB)
            have hs := symB (bD := bD) (a := a) (b := b) (r := rOf b.data.toList) (by rcases rOf_cases b.data.toList with q | q | q <;> omega) nb h97 h98 (rOf_ord _)
            rcases rOf_cases b.data.toList with q | q | q <;> rw [q] at hs
            · exact key F _ m3 hF hs
            · exact key F _ m4 hF hs
            · exact key F _ m5 hF hs
          by_cases h97 : a.data.toList = [97]
          · have e : a = bA := bs_eq h97
            exact second la (by simp [pairsR]) (by simp [pairsR]) (by simp [pairsR]) (by simp [pairsR]) (by simp [pairsR]) (by rw [e]; exact .string bA)
          by_cases h98 : a.data.toList = [98]
          · have e : a = bB := bs_eq h98
            exact second lb (by simp [pairsR]) (by simp [pairsR]) (by simp [pairsR]) (by simp [pairsR]) (by simp [pairsR]) (by rw [e]; exact .string bB)
          -- the first is a symbol
          have first : ∀ F, (F, la) ∈ pairsR → (F, lb) ∈ pairsR → (F, sT 7) ∈ pairsR → VR (ioR bD (numX a.data.toList b.data.toList)) F (.string a) → Calls Tryz.prog fRen #[.string a, .string b, .bool ov, .bool th] W fun e w' => e = .returned (.bool true) ∧ Below W.heap.size W w' := fun F m1 m2 m3 hF => by
            by_cases g97 : b.data.toList = [97]
            · have e : b = bA := bs_eq g97
              exact key F la m1 hF (by rw [e]; exact .string bA)
            by_cases g98 : b.data.toList = [98]
            · have e : b = bB := bs_eq g98
              exact key F lb m2 hF (by rw [e]; exact .string bB)
            exact key F (sT 7) m3 hF (symB (bD := bD) (a := a) (b := b) (r := 7) (by decide) nb g97 g98 fun n c hc => by cases hc)
          have hs := symA (bD := bD) (a := a) (b := b) (r := rOf a.data.toList) (by rcases rOf_cases a.data.toList with q | q | q <;> omega) na h97 h98 (rOf_ord _)
          rcases rOf_cases a.data.toList with q | q | q <;> rw [q] at hs
          · exact first _ (List.mem_of_getElem? (i := 5) rfl) (List.mem_of_getElem? (i := 6) rfl) (List.mem_of_getElem? (i := 7) rfl) hs
          · exact first _ (List.mem_of_getElem? (i := 8) rfl) (List.mem_of_getElem? (i := 9) rfl) (List.mem_of_getElem? (i := 10) rfl) hs
          · exact first _ (List.mem_of_getElem? (i := 11) rfl) (List.mem_of_getElem? (i := 12) rfl) (List.mem_of_getElem? (i := 13) rfl) hs
end
end Go.Proofs.YtdcioacjhpnihaaGreatDoor
namespace Go.Proofs.YtdcioacjhpnihaaGreatDoor
open Go Go.RowKit
theorem mapM_each {α β : Type} {f : α → Option β} : ∀ {l : List α} {r : List β}, l.mapM f = some r → l.length = r.length ∧ ∀ i (h : i < l.length) (h' : i < r.length), f l[i] = some r[i]
  | [], r, h => by simp at h; subst h; exact ⟨rfl, fun i h => absurd h (Nat.not_lt_zero _)⟩
  | a :: l, r, h => by
    rw [List.mapM_cons] at h
    simp only [bind, Option.bind_eq_some_iff, pure, Option.some.injEq] at h
    obtain ⟨b, hb, r', hr, rfl⟩ := h
    obtain ⟨h1, h2⟩ := mapM_each hr
    refine ⟨by simp [h1], fun i h h' => ?_⟩
    cases i with
    | zero => exact hb
    | succ i => exact h2 i (by simpa using h) (by simpa using h')
/-- what a map's entry reads as -/
def entG (P : Program) (w : World) (fuel : Nat) (k e : TypeId) (x : MapEntry) : Option ((Lit × DataW (List UInt8)) × List MemPlace) :=
  (keyOf P k x.key).bind fun key => if x.val.formed P e then (DataW.trod (funcToken P) P w 0 (fun _ => true) true fuel e x.val.cells.toList).map fun y => ((key, y.1), y.2) else none
theorem funcs_open {P : Program} {w : World} {t k e : TypeId} (ht : P.underlying t = some (.map k e)) {fuel : Nat} {cs : List Value} {D : List (Lit × DataW (List UInt8))} {p : List MemPlace}
    (h : DataW.trod (funcToken P) P w 0 (fun _ => true) true fuel t cs = some (.map D, p)) : ∃ fuel b es clock L, cs = [.map (some b)] ∧ w.heap[b]? = some (.map es clock) ∧ es.toList.mapM (entG P w fuel k e) = some L ∧ D.Perm (L.map (·.1)) := by
  cases fuel with
  | zero => simp [DataW.trod] at h
  | succ n =>
    have h0 := h
    rw [DataW.trod_step] at h
    unfold DataW.trodStep at h
    rw [ht] at h
    split at h <;> simp_all
    rename_i b _
    rw [DataW.trod_step] at h0
    unfold DataW.trodStep at h0
    cases hb : w.heap[b]? with
    | none => simp [ht, hb] at h0
    | some o =>
      cases o
      case map es clock =>
        simp only [ht, hb] at h0
        split at h0
        · rename_i hc
          simp only [Option.bind_eq_some_iff] at h0
          obtain ⟨entries, he, h3⟩ := h0
          split at h3
          · simp only [Option.some.injEq, Prod.mk.injEq, DataW.map.injEq] at h3
            refine ⟨n, es, ⟨clock, rfl⟩, entries, he, ?_⟩
            rw [← h3.1]
            exact WideShapes.sorted_perm _
          · cases h3
        · cases h0
      all_goals (simp [ht, hb] at h0; done)
theorem trod_func {P : Program} {w : World} {fuel : Nat} {e : TypeId} {ps rs : Array TypeId} {va : Bool} (he : P.underlying e = some (.func ps rs va)) {cs : List Value} {y : DataW (List UInt8) × List MemPlace} {tk : List UInt8} (h : DataW.trod (funcToken P) P w 0 (fun _ => true) true fuel e cs = some y) (hq : y.1 = .held tk) :
    ∃ fn fi ca, cs = [.func fn fi ca] ∧ tk = funcToken P (e, .func fn fi ca) := by
  cases fuel with
  | zero => simp [DataW.trod] at h
  | succ n =>
    rw [DataW.trod_step] at h
    unfold DataW.trodStep at h
    rw [he] at h
    split at h <;> simp_all
    · subst h
      cases hq
    · subst h
      cases hq
      exact ⟨_, _, _, ⟨rfl, rfl, rfl⟩, rfl⟩
theorem entG_some {P : Program} {w : World} {fuel : Nat} {k e : TypeId} (hk : P.underlying k = some (.int .u8)) {ps rs : Array TypeId} {va : Bool} (he : P.underlying e = some (.func ps rs va)) {x : MapEntry} {q : Lit × DataW (List UInt8)} {pl : List MemPlace} {b : UInt8} {r : List UInt8} (h : entG P w fuel k e x = some (q, pl)) (hq : q.2 = .held (b :: r)) :
    ∃ (n : Int) (f : FuncId) (fn : Func), q.1 = .int .u8 n ∧ x.key = .int .u8 n ∧ x.val = .func (.func f) #[] #[] ∧ P.funcNamed fn.name = some f ∧ fn.name.toUTF8.data.toList = b :: r := by
  unfold entG at h
  rw [Option.bind_eq_some_iff] at h
  obtain ⟨key, hkey, h⟩ := h
  split at h
  · rename_i hf
    rw [Option.map_eq_some_iff] at h
    obtain ⟨y, hy, h⟩ := h
    cases h
    have hq : y.1 = .held (b :: r) := hq
    have h1 : ∃ n, x.key = .int .u8 n ∧ key = .int .u8 n := by
      unfold keyOf at hkey
      rw [hk] at hkey
      unfold mapKey at hkey
      rw [hk] at hkey
      cases hx : x.key <;> rw [hx] at hkey <;> simp_all
    obtain ⟨n, h1, rfl⟩ := h1
    obtain ⟨f0, fi, ca, hcs, htk⟩ := trod_func he hy hq
    have h2 : x.val = .func f0 fi ca := by
      cases hv : x.val <;> rw [hv] at hf hcs <;> simp_all [Value.formed, Value.cells]
    obtain ⟨f, fn, h3, _, h4, h5⟩ := funcToken_tells htk.symm
    cases h3
    exact ⟨n, f, fn, rfl, h1, h2, h4, h5⟩
  · cases h
theorem utf8_inj {a b : String} (h : a.toUTF8.data.toList = b.toUTF8.data.toList) : a = b := by
  have h1 : a.toUTF8 = b.toUTF8 := ByteArray.ext (Array.ext' h)
  exact String.toByteArray_inj.1 h1
def fnV (f : FuncId) : Value := .func (.func f) #[] #[]
def fk : Nat → FuncId
  | 0 => 495
  | 1 => 496
  | 2 => 497
  | _ => 498
noncomputable def entD (k : Nat) : MapEntry := ⟨.int .u8 (.ofNat k), fnV (fk k), k⟩
noncomputable def dsM0 : Obj := .map ⟨[entD 0, entD 1, entD 2, entD 3]⟩ 4
def nm0 : String := "(armarium/rename.namer).move"
def nm1 : String := "(armarium/rename.namer).over"
def nm2 : String := "(armarium/rename.namer).link"
def nm3 : String := "(armarium/rename.namer).drop"
def byN (s : String) : List UInt8 := s.toUTF8.data.toList
/-- what the map reads as -/
def dsD : List (Lit × DataW (List UInt8)) := [(.int .u8 0, .held (byN nm0)), (.int .u8 1, .held (byN nm1)), (.int .u8 2, .held (byN nm2)), (.int .u8 3, .held (byN nm3))]
theorem ent_of {W : World} {fuel : Nat} {x : MapEntry} {q : Lit × DataW (List UInt8)} {pl : List MemPlace} (h : entG Tryz.prog W fuel 5 144 x = some (q, pl)) (hq : q ∈ dsD) :
    ∃ i : Nat, i < 4 ∧ q.1 = .int .u8 (.ofNat i) ∧ x = ⟨.int .u8 (.ofNat i), fnV (fk i), x.born⟩ := by
  have key : ∀ (i : Nat) (s : String) (b : UInt8) (r : List UInt8), byN s = b :: r → Tryz.prog.funcNamed s = some (fk i) → q = (.int .u8 (.ofNat i), .held (byN s)) → q.1 = .int .u8 (.ofNat i) ∧ x = ⟨.int .u8 (.ofNat i), fnV (fk i), x.born⟩ := fun i s b r hb hs he => by
    obtain ⟨n, f, fn, h1, h2, h3, h4, h5⟩ := entG_some Tryz.underlying5 Tryz.underlying144 h (b := b) (r := r) (by rw [he, hb])
    have hn : fn.name = s := utf8_inj (h5.trans hb.symm)
    rw [hn, hs] at h4
    rw [he] at h1
    have h1 : Lit.int .u8 (.ofNat i) = .int .u8 n := h1
    obtain ⟨xk, xv, xb⟩ := x
    simp only at h2 h3
    cases h1
    cases h4
    refine ⟨by rw [he], ?_⟩
    rw [h2, h3]
    rfl
  unfold dsD at hq
  simp only [List.mem_cons, List.not_mem_nil, or_false] at hq
  rcases hq with e | e | e | e
  · exact ⟨0, by decide, key 0 nm0 40 ((byN nm0).tail) (by kernel_rfl) dz0 e⟩
  · exact ⟨1, by decide, key 1 nm1 40 ((byN nm1).tail) (by kernel_rfl) dz1 e⟩
  · exact ⟨2, by decide, key 2 nm2 40 ((byN nm2).tail) (by kernel_rfl) dz2 e⟩
  · exact ⟨3, by decide, key 3 nm3 40 ((byN nm3).tail) (by kernel_rfl) dz3 e⟩
def litK : Lit → Int
  | .int _ n => n
  | _ => 99
theorem four {α : Type} {l : List α} (h : l.length = 4) : ∃ a b c d, l = [a, b, c, d] := by
  match l, h with
  | [a, b, c, d], _ => exact ⟨a, b, c, d, rfl⟩
theorem does_fk (d : Nat) (f : FuncId) (hd : d < 4) (h : Tryz.prog.funcNamed (doesN d) = some f) : f = fk d := by
  have hd : d = 0 ∨ d = 1 ∨ d = 2 ∨ d = 3 := by omega
  rcases hd with rfl | rfl | rfl | rfl
  · rw [dz0] at h; exact (Option.some.inj h).symm
  · rw [dz1] at h; exact (Option.some.inj h).symm
  · rw [dz2] at h; exact (Option.some.inj h).symm
  · rw [dz3] at h; exact (Option.some.inj h).symm
theorem map_of {W : World} {fuel r : Nat} {es : Array MapEntry} {clock : Nat} {L : List ((Lit × DataW (List UInt8)) × List MemPlace)} (h : es.toList.mapM (entG Tryz.prog W fuel 5 144) = some L) (hp : dsD.Perm (L.map (·.1))) (hr : W.heap[r]? = some (.map es clock)) :
    ∃ es c, W.heap[r]? = some (.map es c) ∧ doesOk Tryz.prog es := by
  obtain ⟨h1, h2⟩ := mapM_each h
  have hl : L.length = 4 := by have := hp.length_eq; rw [List.length_map] at this; exact this.symm
  obtain ⟨l0, l1, l2, l3, rfl⟩ := four hl
  obtain ⟨x0, x1, x2, x3, hes⟩ := four (h1.trans hl)
  have hea : es = ⟨[x0, x1, x2, x3]⟩ := Array.ext' hes
  clear h h1 hl hes
  subst hea
  · · have g0 := h2 0 (by simp) (by simp)
      have g1 := h2 1 (by simp) (by simp)
      have g2 := h2 2 (by simp) (by simp)
      have g3 := h2 3 (by simp) (by simp)
      obtain ⟨i0, d0, k0, e0⟩ := ent_of g0 (hp.mem_iff.2 (by simp))
      obtain ⟨i1, d1, k1, e1⟩ := ent_of g1 (hp.mem_iff.2 (by simp))
      obtain ⟨i2, d2, k2, e2⟩ := ent_of g2 (hp.mem_iff.2 (by simp))
      obtain ⟨i3, d3, k3, e3⟩ := ent_of g3 (hp.mem_iff.2 (by simp))
      have hnd : (([l0, l1, l2, l3] : List ((Lit × DataW (List UInt8)) × List MemPlace)).map (fun y => litK y.1.1)).Nodup := by
        have h3 : (dsD.map (fun y => litK y.1)).Perm (([l0, l1, l2, l3] : List ((Lit × DataW (List UInt8)) × List MemPlace)).map (fun y => litK y.1.1)) := by
          have := hp.map (fun y => litK y.1)
          rwa [List.map_map] at this
        exact h3.nodup_iff.1 (show ([0, 1, 2, 3] : List Int).Nodup by decide)
      simp only [List.map_cons, List.map_nil] at hnd
      have k0 : l0.1.1 = .int .u8 (.ofNat i0) := k0
      have k1 : l1.1.1 = .int .u8 (.ofNat i1) := k1
      have k2 : l2.1.1 = .int .u8 (.ofNat i2) := k2
      have k3 : l3.1.1 = .int .u8 (.ofNat i3) := k3
      rw [k0, k1, k2, k3] at hnd
      have n01 : i0 ≠ i1 := fun e => by subst e; simp at hnd
      have n02 : i0 ≠ i2 := fun e => by subst e; simp at hnd
      have n03 : i0 ≠ i3 := fun e => by subst e; simp at hnd
      have n12 : i1 ≠ i2 := fun e => by subst e; simp at hnd
      have n13 : i1 ≠ i3 := fun e => by subst e; simp at hnd
      have n23 : i2 ≠ i3 := fun e => by subst e; simp at hnd
      have hk : ∀ d, d < 4 → d = i0 ∨ d = i1 ∨ d = i2 ∨ d = i3 := fun d hd => by omega
      have hz : ∀ d f, d < 4 → Tryz.prog.funcNamed (doesN d) = some f → f = fk d := does_fk
      clear hnd hp h2 g0 g1 g2 g3 k0 k1 k2 k3
      have f0 : x0 = ⟨.int .u8 (.ofNat i0), fnV (fk i0), x0.born⟩ := e0
      clear e0
      have f1 : x1 = ⟨.int .u8 (.ofNat i1), fnV (fk i1), x1.born⟩ := e1
      clear e1
      have f2 : x2 = ⟨.int .u8 (.ofNat i2), fnV (fk i2), x2.born⟩ := e2
      clear e2
      have f3 : x3 = ⟨.int .u8 (.ofNat i3), fnV (fk i3), x3.born⟩ := e3
      clear e3
      generalize x0.born = b0 at f0
      generalize x1.born = b1 at f1
      generalize x2.born = b2 at f2
      generalize x3.born = b3 at f3
      subst f0 f1 f2 f3
      refine ⟨_, clock, hr, ?_, ?_, ?_⟩
      · simp only [List.map_cons, List.map_nil, List.nodup_cons, List.mem_cons, List.not_mem_nil, or_false, not_or, Value.int.injEq, true_and, not_false_eq_true, List.nodup_nil, and_true, Int.ofNat_eq_natCast, Int.natCast_inj]
        exact ⟨⟨n01, n02, n03⟩, ⟨n12, n13⟩, n23⟩
      · intro e he
        simp only [List.mem_cons, List.not_mem_nil, or_false] at he
        rcases he with rfl | rfl | rfl | rfl
        · exact ⟨_, rfl⟩
        · exact ⟨_, rfl⟩
        · exact ⟨_, rfl⟩
        · exact ⟨_, rfl⟩
      · intro d f hd hf
        have hf := hz d f hd hf
        subst hf
        rcases hk d hd with rfl | rfl | rfl | rfl
        · exact ⟨_, .head _, rfl, rfl⟩
        · exact ⟨_, .tail _ (.head _), rfl, rfl⟩
        · exact ⟨_, .tail _ (.tail _ (.head _)), rfl, rfl⟩
        · exact ⟨_, .tail _ (.tail _ (.tail _ (.head _))), rfl, rfl⟩
theorem does_of {W : World} (h : funcsAt Tryz.prog W "armarium/rename.does" (.map [(.int .u8 0, .iface "func" (.lit (.string (byN nm0)))), (.int .u8 1, .iface "func" (.lit (.string (byN nm1)))), (.int .u8 2, .iface "func" (.lit (.string (byN nm2)))), (.int .u8 3, .iface "func" (.lit (.string (byN nm3))))])) (hS : W.ShapedOpen Tryz.prog) :
    ∃ r, W.heap[(0 : Nat)]? = some (.cells ⟨[.map (some r)]⟩ dTy (0, 0)) ∧ ∃ es c, W.heap[r]? = some (.map es c) ∧ doesOk Tryz.prog es := by
  obtain ⟨g, t, cs, fuel, p, hg, ht, hv, h⟩ := h
  have hgn : Tryz.prog.globalNamed "armarium/rename.does" = some 0 := by kernel_rfl
  obtain rfl : 0 = g := Option.some.inj (hgn.symm.trans hg)
  have htn : (Tryz.prog.globals[(0 : Nat)]?).map (·.type) = some 146 := by kernel_rfl
  obtain rfl : 146 = t := Option.some.inj (htn.symm.trans ht)
  obtain ⟨fuel, r, es, clock, L, hcs, hr, hL, hp⟩ := funcs_open Tryz.underlying146 (D := dsD) h
  have hrow : (((begin Tryz.prog (fun _ _ => 0) default).world.heap[(0 : Nat)]?).bind Obj.row?).map (·.2) = some 146 := by kernel_rfl
  obtain ⟨es', c', hm, hd⟩ := map_of hL hp hr
  refine ⟨r, ?_, es', c', hm, hd⟩
  cases hx : ((begin Tryz.prog (fun _ _ => 0) default).world.heap[(0 : Nat)]?).bind Obj.row? with
  | none => rw [hx] at hrow; cases hrow
  | some zt =>
    obtain ⟨z, t'⟩ := zt
    rw [hx] at hrow
    cases hrow
    have hlt : (0 : Nat) < Tryz.prog.globals.size := by
      have : Tryz.prog.globals.size = 8 := by kernel_rfl
      rw [this]; decide
    obtain ⟨cs', h1, _⟩ := hS.1 0 z _ hlt hx
    unfold World.var? at hv
    rw [hgn] at hv
    simp only [Option.bind_some, h1, Option.some.injEq] at hv
    have hc : cs' = ⟨[.map (some r)]⟩ := hv.trans (Array.ext' hcs)
    rw [h1, hc]
    rfl
end Go.Proofs.YtdcioacjhpnihaaGreatDoor
