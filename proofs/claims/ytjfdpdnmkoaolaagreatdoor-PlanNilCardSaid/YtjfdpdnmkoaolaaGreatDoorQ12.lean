/- Short words for values; the rows of bytes that the memos name. A memo: what a call that only reads gave. A memo: what a call that only reads gave. A memo: what a call that only reads gave. -/
import Derived.Test.YtjfdpdnmkoaolaaGreatDoorQ11
set_option linter.all false
namespace Go.Proofs.YtjfdpdnmkoaolaaGreatDoor
open Go
noncomputable section
abbrev tt : Value := .bool true
abbrev ff : Value := .bool false
abbrev I (n : Nat) : Value := .int .i64 (.ofNat n)
abbrev U (n : Nat) : Value := .int .u64 (.ofNat n)
def mapU : List Nat → List UInt8 := List.rec (motive := fun _ => List UInt8) [] (fun n _ ih => UInt8.ofNat n :: ih)
abbrev St (l : List Nat) : Value := .string ⟨⟨mapU l⟩⟩
abbrev e0 : Value := .string ⟨⟨[]⟩⟩
abbrev p0 : Value := .pointer none
abbrev s0 : Value := .slice none 0 0
abbrev m0 : Value := .map none
abbrev f0 : Value := .nilFunc
abbrev i0 : Value := .nilIface
abbrev Pt (k o : Nat) : Value := .pointer (some ⟨k, o, none⟩)
abbrev Sx (k o n c : Nat) : Value := .slice (some ⟨k, o, none⟩) n c
abbrev Sg (k o q n c : Nat) : Value := .slice (some ⟨k, o, some q⟩) n c
abbrev Mp (k : Nat) : Value := .map (some k)
abbrev Fn (f : FuncId) (b c : List Value) : Value := .func (.func f) ⟨b⟩ ⟨c⟩
abbrev Ag (l : List Value) : Value := .agg ⟨l⟩
abbrev Tu (l : List Value) : Value := .tuple ⟨l⟩
/-- noughts behind -/
def padN (l : List Nat) (n : Nat) : List Nat := List.rec (motive := fun _ => List Nat) (List.replicate n 0) (fun x _ ih => x :: ih) l
def shaK : List Nat := [0x428a2f98, 0x71374491, 0xb5c0fbcf, 0xe9b5dba5, 0x3956c25b, 0x59f111f1, 0x923f82a4, 0xab1c5ed5, 0xd807aa98, 0x12835b01, 0x243185be, 0x550c7dc3, 0x72be5d74, 0x80deb1fe, 0x9bdc06a7, 0xc19bf174, 0xe49b69c1, 0xefbe4786, 0x0fc19dc6, 0x240ca1cc, 0x2de92c6f, 0x4a7484aa, 0x5cb0a9dc, 0x76f988da, 0x983e5152, 0xa831c66d, 0xb00327c8, 0xbf597fc7, 0xc6e00bf3, 0xd5a79147, 0x06ca6351, 0x14292967, 0x27b70a85, 0x2e1b2138, 0x4d2c6dfc, 0x53380d13, 0x650a7354, 0x766a0abb, 0x81c2c92e, 0x92722c85, 0xa2bfe8a1, 0xa81a664b, 0xc24b8b70, 0xc76c51a3, 0xd192e819, 0xd6990624, 0xf40e3585, 0x106aa070, 0x19a4c116, 0x1e376c08, 0x2748774c, 0x34b0bcb5, 0x391c0cb3, 0x4ed8aa4a, 0x5b9cca4f, 0x682e6ff3, 0x748f82ee, 0x78a5636f, 0x84c87814, 0x8cc70208, 0x90befffa, 0xa4506ceb, 0xbef9a3f7, 0xc67178f2]
def shaF : List Nat := [0x6a09e667, 0xbb67ae85, 0x3c6ef372, 0xa54ff53a, 0x510e527f, 0x9b05688c, 0x1f83d9ab, 0x5be0cd19]
def dbr : List Nat := [0, 1, 56, 2, 57, 49, 28, 3, 61, 58, 42, 50, 38, 29, 17, 4, 62, 47, 59, 36, 45, 43, 51, 22, 53, 39, 33, 30, 24, 18, 12, 5, 63, 55, 48, 27, 60, 41, 37, 16, 46, 35, 44, 21, 52, 32, 23, 11, 54, 26, 40, 15, 34, 20, 31, 10, 25, 14, 19, 9, 13, 8, 7, 6]
def gFirst : Nat × MR := (0, ⟨382, .u32, shaF⟩)
def gHalves : Nat × MR := (4, hvR)
def gK : Nat × MR := (1, ⟨55, .u32, shaK⟩)
def gBr : Obj := .cells ⟨ints .u8 dbr⟩ 504 (0, 0)
def n0 : List Nat := (padN [] 512)
def r0 : List Value := ints .u8 n0
abbrev t0 : List Nat := n0
def n2 : List Nat := (padN [1] 511)
def r2 : List Value := ints .u8 n2
abbrev t2 : List Nat := n2
def n5 : List Nat := [0, 0, 0, 0, 0, 0, 0, 1, 1, 1, 241, 0, 0, 3, 0, 0, 0, 0, 0, 0, 0, 0, 0, 0, 0, 0, 0, 0, 0, 0, 0, 0, 0, 0, 0, 0, 0, 0, 0, 0, 0, 0, 0, 0, 0, 0, 0, 0, 0, 0, 0, 0, 0, 0, 0, 0, 0, 0, 0, 0, 0, 0, 0, 0, 0, 0, 0, 0, 0, 0, 0, 0, 0, 0, 0, 0, 0, 0, 0, 0, 0, 0, 0, 0, 0, 0, 0, 0, 0, 0, 0, 0, 0, 0, 0, 0, 0, 0, 0, 0, 0, 0, 0, 0, 0, 0, 0, 0, 0, 0, 0, 0, 0, 0, 0, 0, 0, 0, 0, 0, 0, 0, 0, 0, 0, 0, 0, 0, 0, 0, 0, 0, 0, 0, 0, 0, 0, 0, 0, 0, 0, 0, 0, 0, 0, 0, 0, 0, 0, 0, 0, 0, 0, 0, 0, 0, 0, 0, 0, 0, 0, 0, 0, 0, 0, 0, 0, 0, 0, 0, 0, 0, 0, 0, 0, 0, 0, 0, 0, 0, 0, 0, 0, 0, 0, 0, 0, 0, 0, 0, 0, 0, 0, 0, 0, 0, 0, 0, 0, 0, 0, 0, 0, 0, 0, 0, 0, 0, 0, 0, 0, 0, 0, 0, 0, 0, 0, 0, 0, 0, 0, 0, 0, 0, 0, 0, 0, 0, 0, 0, 0, 0, 0, 0, 0, 0, 0, 0, 0, 0, 0, 0, 0, 0, 0, 0, 0, 0, 0, 0, 0, 0, 0, 0, 0, 0, 0, 0, 0, 0, 0, 0, 0, 0, 0, 0, 0, 0, 0, 0, 0, 0, 0, 0, 0, 0, 0, 0, 0, 0, 0, 0, 0, 0, 0, 0, 0, 0, 0, 0, 0, 0, 0, 0, 0, 0, 0, 0, 0, 0, 0, 0, 0, 0, 0, 0, 0, 0, 0, 0, 0, 0, 0, 0, 0, 0, 0, 0, 0, 0, 0, 0, 0, 0, 0, 0, 0, 0, 0, 0, 0, 0, 0, 0, 0, 0, 0, 0, 0, 0, 0, 0, 0, 0, 0, 0, 0, 0, 0, 0, 0, 0, 0, 0, 0, 0, 0, 0, 0, 0, 0, 0, 0, 0, 0, 0, 0, 0, 0, 0, 0, 0, 0, 0, 0, 0, 0, 0, 0, 0, 0, 0, 0, 0, 0, 0, 0, 0, 0, 0, 0, 0, 0, 0, 0, 0, 0, 0, 0, 0, 0, 0, 0, 0, 0, 0, 0, 0, 0, 0, 0, 0, 0, 0, 0, 0, 0, 0, 0, 0, 0, 0, 0, 0, 0, 0, 0, 0, 0, 0, 0, 0, 0, 0, 0, 0, 0, 0, 0, 0, 0, 0, 0, 0, 0, 0, 0, 0, 0, 0, 0, 0, 0, 0, 0, 0, 0, 0, 0, 0, 0, 0, 0, 0, 0, 0, 0, 0, 0, 0, 0, 0, 0, 0, 0, 0, 0, 0, 0, 0, 0, 0, 0, 0, 0, 0, 0, 0, 0, 0, 0, 0, 0, 0, 0, 0, 0, 0, 0, 0, 0, 0, 0, 0, 0, 0, 0, 0, 162, 13, 207, 123]
def r5 : List Value := ints .u8 n5
abbrev t5 : List Nat := n5
def n6 : List Nat := [0, 0, 0, 0, 0, 0, 0, 2, 1, 1, 241, 0, 0, 0, 0, 0, 0, 0, 0, 0, 0, 0, 0, 0, 0, 0, 0, 0, 0, 1, 0, 0, 0, 0, 0, 0, 0, 0, 0, 0, 0, 0, 0, 0, 0, 0, 0, 0, 0, 0, 0, 0, 0, 0, 0, 0, 0, 0, 0, 0, 0, 0, 0, 0, 0, 0, 0, 0, 0, 0, 0, 0, 0, 0, 0, 0, 0, 0, 0, 0, 0, 0, 0, 0, 0, 0, 0, 0, 0, 0, 0, 0, 0, 0, 0, 0, 0, 0, 0, 0, 0, 0, 0, 0, 0, 0, 0, 0, 0, 0, 0, 0, 0, 0, 0, 0, 0, 0, 0, 0, 0, 0, 0, 0, 0, 0, 0, 0, 0, 0, 0, 0, 0, 0, 0, 0, 0, 0, 0, 0, 0, 0, 0, 0, 0, 0, 0, 0, 0, 0, 0, 0, 0, 0, 0, 0, 0, 0, 0, 0, 0, 0, 0, 0, 0, 0, 0, 0, 0, 0, 0, 0, 0, 0, 0, 0, 0, 0, 0, 0, 0, 0, 0, 0, 0, 0, 0, 0, 0, 0, 0, 0, 0, 0, 0, 0, 0, 0, 0, 0, 0, 0, 0, 0, 0, 0, 0, 0, 0, 0, 0, 0, 0, 0, 0, 0, 0, 0, 0, 0, 0, 0, 0, 0, 0, 0, 0, 0, 0, 0, 0, 0, 0, 0, 0, 0, 0, 0, 0, 0, 0, 0, 0, 0, 0, 0, 0, 0, 0, 0, 0, 0, 0, 0, 0, 0, 0, 0, 0, 0, 0, 0, 0, 0, 0, 0, 0, 0, 0, 0, 0, 0, 0, 0, 0, 0, 0, 0, 0, 0, 0, 0, 0, 0, 0, 0, 0, 0, 0, 0, 0, 0, 0, 0, 0, 0, 0, 0, 0, 0, 0, 0, 0, 0, 0, 0, 0, 0, 0, 0, 0, 0, 0, 0, 0, 0, 0, 0, 0, 0, 0, 0, 0, 0, 0, 0, 0, 0, 0, 0, 0, 0, 0, 0, 0, 0, 0, 0, 0, 0, 0, 0, 0, 0, 0, 0, 0, 0, 0, 0, 0, 0, 0, 0, 0, 0, 0, 0, 0, 0, 0, 0, 0, 0, 0, 0, 0, 0, 0, 0, 0, 0, 0, 0, 0, 0, 0, 0, 0, 0, 0, 0, 0, 0, 0, 0, 0, 0, 0, 0, 0, 0, 0, 0, 0, 0, 0, 0, 0, 0, 0, 0, 0, 0, 0, 0, 0, 0, 0, 0, 0, 0, 0, 0, 0, 0, 0, 0, 0, 0, 0, 0, 0, 0, 0, 0, 0, 0, 0, 0, 0, 0, 0, 0, 0, 0, 0, 0, 0, 0, 0, 0, 0, 0, 0, 0, 0, 0, 0, 0, 0, 0, 0, 0, 0, 0, 0, 0, 0, 0, 0, 0, 0, 0, 0, 0, 0, 0, 0, 0, 0, 0, 0, 0, 0, 0, 0, 0, 0, 0, 0, 0, 0, 0, 0, 0, 0, 0, 0, 0, 0, 0, 0, 0, 0, 0, 0, 0, 0, 0, 0, 0, 0, 0, 0, 0, 0, 0, 186, 35, 21, 77]
def r6 : List Value := ints .u8 n6
abbrev t6 : List Nat := n6
def n7 : List Nat := [0, 0, 0, 0, 0, 0, 0, 3, 2, 0, 34, 0, 0, 0, 0, 0, 0, 0, 0, 0, 0, 0, 0, 0, 0, 0, 0, 0, 0, 0, 0, 0, 0, 0, 0, 0, 0, 0, 0, 0, 0, 0, 0, 0, 0, 0, 0, 0, 0, 0, 0, 0, 0, 0, 0, 0, 0, 0, 0, 0, 0, 0, 0, 0, 0, 0, 0, 0, 0, 0, 0, 0, 0, 0, 0, 0, 0, 0, 0, 0, 0, 0, 0, 0, 0, 0, 0, 0, 0, 0, 0, 0, 0, 0, 0, 0, 0, 0, 0, 0, 0, 0, 0, 0, 0, 0, 0, 0, 0, 0, 0, 0, 0, 0, 0, 0, 0, 0, 0, 0, 0, 0, 0, 0, 0, 0, 0, 0, 0, 0, 0, 0, 0, 0, 0, 0, 0, 0, 0, 0, 0, 0, 0, 0, 0, 0, 0, 0, 0, 0, 0, 0, 0, 0, 0, 0, 0, 0, 0, 0, 0, 0, 0, 0, 0, 0, 0, 0, 0, 0, 0, 0, 0, 0, 0, 0, 0, 0, 0, 0, 0, 0, 0, 0, 0, 0, 0, 0, 0, 0, 0, 0, 0, 0, 0, 0, 0, 0, 0, 0, 0, 0, 0, 0, 0, 0, 0, 0, 0, 0, 0, 0, 0, 0, 0, 0, 0, 0, 0, 0, 0, 0, 0, 0, 0, 0, 0, 0, 0, 0, 0, 0, 0, 0, 0, 0, 0, 0, 0, 0, 0, 0, 0, 0, 0, 0, 0, 0, 0, 0, 0, 0, 0, 0, 0, 0, 0, 0, 0, 0, 0, 0, 0, 0, 0, 0, 0, 0, 0, 0, 0, 0, 0, 0, 0, 0, 0, 0, 0, 0, 0, 0, 0, 0, 0, 0, 0, 0, 0, 0, 0, 0, 0, 0, 0, 0, 0, 0, 0, 0, 0, 0, 0, 0, 0, 0, 0, 0, 0, 0, 0, 0, 0, 0, 0, 0, 0, 0, 0, 0, 0, 0, 0, 0, 0, 0, 0, 0, 0, 0, 0, 0, 0, 0, 0, 0, 0, 0, 0, 0, 0, 0, 0, 0, 0, 0, 0, 0, 0, 0, 0, 0, 0, 0, 0, 0, 0, 0, 0, 0, 0, 0, 0, 0, 0, 0, 0, 0, 0, 0, 0, 0, 0, 0, 0, 0, 0, 0, 0, 0, 0, 0, 0, 0, 0, 0, 0, 0, 0, 0, 0, 0, 0, 0, 0, 0, 0, 0, 0, 0, 0, 0, 0, 0, 0, 0, 0, 0, 0, 0, 0, 0, 0, 0, 0, 0, 0, 0, 0, 0, 0, 0, 0, 0, 0, 0, 0, 0, 0, 0, 0, 0, 0, 0, 0, 0, 0, 0, 0, 0, 0, 0, 0, 0, 0, 0, 0, 0, 0, 0, 0, 0, 0, 0, 0, 0, 0, 0, 0, 0, 0, 0, 0, 0, 0, 0, 0, 0, 0, 0, 0, 0, 0, 0, 0, 0, 0, 0, 0, 0, 0, 0, 0, 0, 0, 0, 0, 0, 0, 0, 0, 0, 0, 0, 0, 0, 0, 0, 0, 0, 0, 0, 0, 0, 0, 0, 0, 0, 117, 31, 245, 59]
def r7 : List Value := ints .u8 n7
abbrev t7 : List Nat := n7
def n8 : List Nat := (padN [0, 0, 3] 494)
def r8 : List Value := ints .u8 n8
abbrev t8 : List Nat := n8
def n9 : List Nat := (padN [0, 0, 0, 0, 0, 0, 0, 0, 0, 0, 0, 0, 0, 0, 0, 0, 0, 0, 1] 478)
def r9 : List Value := ints .u8 n9
abbrev t9 : List Nat := n9
def n10 : List Nat := (padN [] 34)
def r10 : List Value := ints .u8 n10
abbrev t10 : List Nat := n10
def n12 : List Nat := (padN [3] 511)
def r12 : List Value := ints .u8 n12
abbrev t12 : List Nat := n12
def n14 : List Nat := [1, 121]
def r14 : List Value := ints .u8 n14
abbrev t14 : List Nat := n14
def n15 : List Nat := [249, 227, 99, 215, 121, 144, 125, 211, 64, 200, 157, 74, 111, 147, 229, 137, 147, 2, 68, 218, 136, 46, 28, 24, 90, 143, 12, 37, 183, 103, 12, 31]
def r15 : List Value := ints .u8 n15
abbrev t15 : List Nat := n15
def n16 : List Nat := [3, 1, 0, 1, 120, 249, 227, 99, 215, 121, 144, 125, 211, 64, 200, 157, 74, 111, 147, 229, 137, 147, 2, 68, 218, 136, 46, 28, 24, 90, 143, 12, 37, 183, 103, 12, 31, 0, 0, 0, 0, 1]
def r16 : List Value := ints .u8 n16
abbrev t16 : List Nat := n16
def n17 : List Nat := [191, 55, 61, 242, 24, 31, 75, 31, 190, 59, 7, 111, 245, 52, 238, 249, 204, 11, 33, 129, 67, 186, 142, 149, 121, 36, 3, 191, 103, 23, 243, 159]
def r17 : List Value := ints .u8 n17
abbrev t17 : List Nat := n17
def n22 : List Nat := (padN [7] 511)
def r22 : List Value := ints .u8 n22
abbrev t22 : List Nat := n22
def n25 : List Nat := (padN [15] 511)
def r25 : List Value := ints .u8 n25
abbrev t25 : List Nat := n25
def n26 : List Nat := (padN [31] 511)
def r26 : List Value := ints .u8 n26
abbrev t26 : List Nat := n26
def n27 : List Nat := (padN [63] 511)
def r27 : List Value := ints .u8 n27
abbrev t27 : List Nat := n27
def n37 : List Nat := (padN [127] 511)
def r37 : List Value := ints .u8 n37
abbrev t37 : List Nat := n37
def n57 : List Nat := (padN [123] 511)
def r57 : List Value := ints .u8 n57
abbrev t57 : List Nat := n57
def n60 : List Nat := (padN [59] 511)
def r60 : List Value := ints .u8 n60
abbrev t60 : List Nat := n60
def n76 : List Nat := (padN [27] 511)
def r76 : List Value := ints .u8 n76
abbrev t76 : List Nat := n76
end
end Go.Proofs.YtjfdpdnmkoaolaaGreatDoor
namespace Go.Proofs.YtjfdpdnmkoaolaaGreatDoor
open Go
noncomputable section
def me0 : ME := ⟨142, [gFirst, gK], ⟨5, .u8, n14⟩, 0, true, 2, 2, [], (Ag r15)⟩
theorem me0_ok : me0.good E0 1000000 = true := by kernel_rfl
end
end Go.Proofs.YtjfdpdnmkoaolaaGreatDoor
namespace Go.Proofs.YtjfdpdnmkoaolaaGreatDoor
open Go
noncomputable section
def me1 : ME := ⟨142, [gFirst, gK], ⟨5, .u8, n16⟩, 0, true, 42, 42, [], (Ag r17)⟩
theorem me1_ok : me1.good E0 1000000 = true := by kernel_rfl
end
end Go.Proofs.YtjfdpdnmkoaolaaGreatDoor
namespace Go.Proofs.YtjfdpdnmkoaolaaGreatDoor
open Go
noncomputable section
def me2 : ME := ⟨285, [], ⟨358, .u8, n12⟩, 0, false, 512, 512, [(I 64)], (Tu [(Ag ([(I 64), (U 3)] ++ (List.replicate 15 (U 0)))), (I 0)])⟩
theorem me2_ok : me2.good E0 1000000 = true := by kernel_rfl
end
end Go.Proofs.YtjfdpdnmkoaolaaGreatDoor
