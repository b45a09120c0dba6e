/- Words for memory that the walks of this claim use: a slice whose cells are known. -/
import Derived.Below
import Derived.Laws.OwnMore
import Derived.WalkKit
import Derived.OwnWalk
namespace Go.Proofs.YtbajnkkekibdmaaDoor
open Go.RowKit

theorem hide {p : Prop} (h : p) : Hid p := h

/-- The cells from address A on are xs, and lie below block B (of no cells nothing is said: the slice may be nil). -/
def Mem (w : World) (B : Nat) (A : Option Addr) (xs : List Value) : Prop :=
  0 < xs.length → ∃ b off, A = some ⟨b, off, none⟩ ∧ b < B ∧ ∀ i (h : i < xs.length), w.cell? ⟨b, off + i, none⟩ = some xs[i]

section
variable {w w' : World} {B B' : Nat} {A : Option Addr} {xs : List Value}
theorem Mem.nil : Mem w B A [] := fun h => absurd h (by simp)
theorem Mem.keep (h : Mem w B A xs) (hk : ∀ b o, b < B → w'.cell? ⟨b, o, none⟩ = w.cell? ⟨b, o, none⟩) : Mem w' B A xs := fun hn => by
  obtain ⟨b, off, e, hb, hc⟩ := h hn
  exact ⟨b, off, e, hb, fun i hi => (hk b _ hb).trans (hc i hi)⟩
theorem Mem.below (h : Mem w B A xs) (hb : Below B w w') : Mem w' B A xs := h.keep fun b o hlt => hb.cell (p := ⟨b, o, none⟩) hlt
theorem Mem.mono (h : Mem w B A xs) (hB : B ≤ B') : Mem w B' A xs := fun hn => by
  obtain ⟨b, off, e, hb, hc⟩ := h hn
  exact ⟨b, off, e, by omega, hc⟩
/-- the cells that are asked for, where there is one -/
theorem Mem.get (h : Mem w B A xs) (hn : 0 < xs.length) : ∃ b off, A = some ⟨b, off, none⟩ ∧ b < B ∧ ∀ i (h : i < xs.length), w.cell? ⟨b, off + i, none⟩ = some xs[i] := h hn
theorem Mem.cut (h : Mem w B A xs) (n : Nat) : Mem w B A (xs.take n) := fun hn => by
  have hl : (xs.take n).length ≤ xs.length := by rw [List.length_take]; omega
  obtain ⟨b, off, e, hb, hc⟩ := h (by omega)
  refine ⟨b, off, e, hb, fun i hi => ?_⟩
  rw [hc i (by omega)]
  simp
end

/-- A world whose old cells and marks are as they were: what a contract leaves behind. -/
theorem bcell {B : Nat} {w w1 : World} (hb : Below B w w1) : (∀ b o, b < B → w1.cell? ⟨b, o, none⟩ = w.cell? ⟨b, o, none⟩) ∧ (∀ b o, b < B → w1.frozen? ⟨b, o, none⟩ = w.frozen? ⟨b, o, none⟩) :=
  ⟨fun b o h => hb.cell (p := ⟨b, o, none⟩) h, fun b o h => hb.frozen (p := ⟨b, o, none⟩) h⟩

theorem ret_bool {a b : Bool} (h : a = b) : Ending.returned (.bool a) = .returned (.bool b) := by rw [h]
theorem ret_int {k : IntKind} {a b : Int} (h : a = b) : Ending.returned (.int k a) = .returned (.int k b) := by rw [h]
theorem size_list (s : ByteArray) : s.data.toList.length = s.size := by rw [Array.length_toList]; rfl
theorem get_list (s : ByteArray) (k : Nat) (h : k < s.size) : s.data.toList[k]'(by rw [size_list]; exact h) = s[k] := rfl
theorem toList_eq (s : ByteArray) : s.toList = s.data.toList := ByteArray.toList_eq s
/-- an integer that says whether something is -/
def Found (w : World) (P : Prop) (e : Ending) (w' : World) : Prop := ∃ r : Int, e = .returned (.int .i64 r) ∧ -1 ≤ r ∧ (0 ≤ r ↔ P) ∧ w = w'
def strs (ss : List ByteArray) : List Value := ss.map Value.string
end Go.Proofs.YtbajnkkekibdmaaDoor
