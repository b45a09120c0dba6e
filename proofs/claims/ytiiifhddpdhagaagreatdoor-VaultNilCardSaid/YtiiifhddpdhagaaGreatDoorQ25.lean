/- Calls of nil: run once, whatever the texts. Walk of VaultNil. -/
import Derived.Test.YtiiifhddpdhagaaGreatDoorQ16
import Derived.Test.YtiiifhddpdhagaaGreatDoorQ24
import Derived.Deep.DeepCutAuto
import Derived.Deep.QuietTactic
import Derived.BigQuiet
import Derived.WalkMore
import Derived.ProofKit
import Derived.Carry
import Derived.ChangeSame
import Derived.Deep.DeepHandedRow
import Derived.Deep.WholeRow
import Derived.Laws.OwnMore
import Derived.IntWalk
import Derived.OpenShut
import Derived.WalkKit
import Derived.Tactics
set_option linter.all false
namespace Go.Proofs.YtiiifhddpdhagaaGreatDoor
open Go
noncomputable section
def zS : Value := .slice none 0 0
set_option maxRecDepth 1000000
theorem nilB_list : runB E2 5 [p0] (Tu [zS, I 1]) = true := by kernel_rfl
theorem nilB_read (n p : ByteArray) : runB E2 6 [p0, .string n, .string p] (Tu [e0, I 1]) = true := by kernel_rfl
theorem nilB_dir (n p : ByteArray) : runB E2 7 [p0, .string n, .string p] (Tu [zS, I 1]) = true := by kernel_rfl
theorem nilB_reclaim : runB E2 8 [p0] (Tu [ff, I 1]) = true := by kernel_rfl
theorem nilB_compact : runB E2 9 [p0] (Tu [ff, I 1]) = true := by kernel_rfl
theorem nilB_free : runB E2 10 [p0] (Tu [Ag [I 0, I 0], I 1]) = true := by kernel_rfl
theorem nilB_mount : runB E2 12 [p0] (Tu [p0, I 1]) = true := by kernel_rfl
theorem nilB_create (n : ByteArray) : runB E2 13 [p0, .string n, zS] (I 1) = true := by kernel_rfl
theorem nilB_delete (n : ByteArray) : runB E2 14 [p0, .string n] (I 1) = true := by kernel_rfl
theorem nilB_store : runB E2 15 [p0] p0 = true := by kernel_rfl
theorem nilB_format : runB E2 16 [p0, Ag [I 0, I 0, I 0]] (I 1) = true := by kernel_rfl
theorem nilB_check : runB E2 11 [p0] (Tu [Ag [I 0, I 0, I 0, I 0], I 1]) = true := by kernel_rfl
end
end Go.Proofs.YtiiifhddpdhagaaGreatDoor
namespace Go.Proofs.YtiiifhddpdhagaaGreatDoor
open Go Go.RowKit
def NilQ (W : World) (v : Value) (e : Ending) (w' : World) : Prop := e = .returned v ∧ Below W.heap.size W w'
theorem nil_any {f : FuncId} {args : List Value} {v : Value} (hB : runB E2 f args v = true) (hf : args.all flat = true) (hv : flat2 v = true) {W : World} (h : TabW W) : Calls Tryz.prog f args.toArray W (NilQ W v) := run_any E2_ok rfl rfl hB hf hv h
set_option maxHeartbeats 4000000 in
set_option maxRecDepth 20000 in
theorem vaultNil_any (n p : ByteArray) (W : World) (h : TabW W) : Calls Tryz.prog 3 #[.string n, .string p] W (NilQ W (.bool true)) := by
  have HT := hide h
  have HWk := fun W' (h' : TabW W') => hide (wakes_any W' h')
  generalize hQ : NilQ W (.bool true) = Q
  have HQ := hide hQ
  clear h hQ
  go_enter Tryz.func3, Tryz.ntmps3
  go_wp2_with fail
  · have hw := HWk W HT.out
    refine hw.out.mono ?_
    rintro e w' ⟨rfl, hb⟩
    go_wp2_with fail
    rw [← HQ.out]
    exact ⟨rfl, hb⟩
  · have HB0 := hide (Below.refl W.heap.size W)
    have HT0 := HT
    have HC := hide (show Calls Tryz.prog 5 #[.pointer none] W (NilQ W (.tuple #[.slice none 0 0, .int .i64 1])) from nil_any nilB_list (by simp [flat, flat1, zS]) (by simp [flat2, flat, flat1, zS]) HT0.out)
    refine HC.out.mono ?_
    rintro e w1 ⟨rfl, hb⟩
    have HB1 := hide (HB0.out.trans (hb.mono HB0.out.size))
    have HT1 := hide (HT0.out.below hb)
    clear hb HC
    go_wp2_with fail
    have HC := hide (show Calls Tryz.prog 6 #[.pointer none, .string n, .string p] w1 (NilQ w1 (.tuple #[.string ⟨#[]⟩, .int .i64 1])) from nil_any (nilB_read n p) (by simp [flat, flat1, zS]) (by simp [flat2, flat, flat1, zS]) HT1.out)
    refine HC.out.mono ?_
    rintro e w2 ⟨rfl, hb⟩
    have HB2 := hide (HB1.out.trans (hb.mono HB1.out.size))
    have HT2 := hide (HT1.out.below hb)
    clear hb HC
    go_wp2_with fail
    have HC := hide (show Calls Tryz.prog 7 #[.pointer none, .string n, .string p] w2 (NilQ w2 (.tuple #[.slice none 0 0, .int .i64 1])) from nil_any (nilB_dir n p) (by simp [flat, flat1, zS]) (by simp [flat2, flat, flat1, zS]) HT2.out)
    refine HC.out.mono ?_
    rintro e w3 ⟨rfl, hb⟩
    have HB3 := hide (HB2.out.trans (hb.mono HB2.out.size))
    have HT3 := hide (HT2.out.below hb)
    clear hb HC
    go_wp2_with fail
    have HC := hide (show Calls Tryz.prog 8 #[.pointer none] w3 (NilQ w3 (.tuple #[.bool false, .int .i64 1])) from nil_any nilB_reclaim (by simp [flat, flat1, zS]) (by simp [flat2, flat, flat1, zS]) HT3.out)
    refine HC.out.mono ?_
    rintro e w4 ⟨rfl, hb⟩
    have HB4 := hide (HB3.out.trans (hb.mono HB3.out.size))
    have HT4 := hide (HT3.out.below hb)
    clear hb HC
    go_wp2_with fail
    have HC := hide (show Calls Tryz.prog 9 #[.pointer none] w4 (NilQ w4 (.tuple #[.bool false, .int .i64 1])) from nil_any nilB_compact (by simp [flat, flat1, zS]) (by simp [flat2, flat, flat1, zS]) HT4.out)
    refine HC.out.mono ?_
    rintro e w5 ⟨rfl, hb⟩
    have HB5 := hide (HB4.out.trans (hb.mono HB4.out.size))
    have HT5 := hide (HT4.out.below hb)
    clear hb HC
    go_wp2_with fail
    have HC := hide (show Calls Tryz.prog 10 #[.pointer none] w5 (NilQ w5 (.tuple #[.agg #[.int .i64 0, .int .i64 0], .int .i64 1])) from nil_any nilB_free (by simp [flat, flat1, zS]) (by simp [flat2, flat, flat1, zS]) HT5.out)
    refine HC.out.mono ?_
    rintro e w6 ⟨rfl, hb⟩
    have HB6 := hide (HB5.out.trans (hb.mono HB5.out.size))
    have HT6 := hide (HT5.out.below hb)
    clear hb HC
    go_wp2_with fail
    have ha6 : Below w6.heap.size w6 (w6.alloc (.cells #[.int .i64 0, .int .i64 0] 36)) := (Below.refl _ _).alloc (Nat.le_refl _) _
    have HB6 := hide (HB6.out.trans (ha6.mono HB6.out.size))
    have HT6 := hide (HT6.out.below ha6)
    clear ha6
    generalize w6.alloc (.cells #[.int .i64 0, .int .i64 0] 36) = v6 at *
    have HC := hide (show Calls Tryz.prog 11 #[.pointer none] v6 (NilQ v6 (.tuple #[.agg #[.int .i64 0, .int .i64 0, .int .i64 0, .int .i64 0], .int .i64 1])) from nil_any nilB_check (by simp [flat, flat1, zS]) (by simp [flat2, flat, flat1, zS]) HT6.out)
    refine HC.out.mono ?_
    rintro e w7 ⟨rfl, hb⟩
    have HB7 := hide (HB6.out.trans (hb.mono HB6.out.size))
    have HT7 := hide (HT6.out.below hb)
    clear hb HC
    go_wp2_with fail
    have ha7 : Below w7.heap.size w7 (w7.alloc (.cells #[.int .i64 0, .int .i64 0, .int .i64 0, .int .i64 0] 40)) := (Below.refl _ _).alloc (Nat.le_refl _) _
    have HB7 := hide (HB7.out.trans (ha7.mono HB7.out.size))
    have HT7 := hide (HT7.out.below ha7)
    clear ha7
    generalize w7.alloc (.cells #[.int .i64 0, .int .i64 0, .int .i64 0, .int .i64 0] 40) = v7 at *
    have HC := hide (show Calls Tryz.prog 12 #[.pointer none] v7 (NilQ v7 (.tuple #[.pointer none, .int .i64 1])) from nil_any nilB_mount (by simp [flat, flat1, zS]) (by simp [flat2, flat, flat1, zS]) HT7.out)
    refine HC.out.mono ?_
    rintro e w8 ⟨rfl, hb⟩
    have HB8 := hide (HB7.out.trans (hb.mono HB7.out.size))
    have HT8 := hide (HT7.out.below hb)
    clear hb HC
    go_wp2_with fail
    have HC := hide (show Calls Tryz.prog 13 #[.pointer none, .string n, .slice none 0 0] w8 (NilQ w8 (.int .i64 1)) from nil_any (nilB_create n) (by simp [flat, flat1, zS]) (by simp [flat2, flat, flat1, zS]) HT8.out)
    refine HC.out.mono ?_
    rintro e w9 ⟨rfl, hb⟩
    have HB9 := hide (HB8.out.trans (hb.mono HB8.out.size))
    have HT9 := hide (HT8.out.below hb)
    clear hb HC
    go_wp2_with fail
    have HC := hide (show Calls Tryz.prog 14 #[.pointer none, .string n] w9 (NilQ w9 (.int .i64 1)) from nil_any (nilB_delete n) (by simp [flat, flat1, zS]) (by simp [flat2, flat, flat1, zS]) HT9.out)
    refine HC.out.mono ?_
    rintro e w10 ⟨rfl, hb⟩
    have HB10 := hide (HB9.out.trans (hb.mono HB9.out.size))
    have HT10 := hide (HT9.out.below hb)
    clear hb HC
    go_wp2_with fail
    have HC := hide (show Calls Tryz.prog 15 #[.pointer none] w10 (NilQ w10 (.pointer none)) from nil_any nilB_store (by simp [flat, flat1, zS]) (by simp [flat2, flat, flat1, zS]) HT10.out)
    refine HC.out.mono ?_
    rintro e w11 ⟨rfl, hb⟩
    have HB11 := hide (HB10.out.trans (hb.mono HB10.out.size))
    have HT11 := hide (HT10.out.below hb)
    clear hb HC
    go_wp2_with fail
    have HC := hide (show Calls Tryz.prog 16 #[.pointer none, .agg #[.int .i64 0, .int .i64 0, .int .i64 0]] w11 (NilQ w11 (.int .i64 1)) from nil_any nilB_format (by simp [flat, flat1, zS]) (by simp [flat2, flat, flat1, zS]) HT11.out)
    refine HC.out.mono ?_
    rintro e w12 ⟨rfl, hb⟩
    have HB12 := hide (HB11.out.trans (hb.mono HB11.out.size))
    have HT12 := hide (HT11.out.below hb)
    clear hb HC
    go_wp2_with fail
    have hw := HWk w12 HT12.out
    refine hw.out.mono ?_
    rintro e w' ⟨rfl, hb⟩
    have HB13 := hide (HB12.out.trans (hb.mono HB12.out.size))
    clear hb
    go_wp2_with fail
    rw [← HQ.out]
    exact ⟨rfl, HB13.out⟩
  · have hw := HWk W HT.out
    refine hw.out.mono ?_
    rintro e w' ⟨rfl, hb⟩
    go_wp2_with fail
    rw [← HQ.out]
    exact ⟨rfl, hb⟩
end Go.Proofs.YtiiifhddpdhagaaGreatDoor
