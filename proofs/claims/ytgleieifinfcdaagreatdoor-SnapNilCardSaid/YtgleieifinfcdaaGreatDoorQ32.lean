/- A piece of the run: armarium/forest.Format 123 5214. A piece of the run: armarium/wal.Open 5214 6035. A piece of the run: armarium/boxes.Mount 5214 6817. The run of armarium/armariumlaw22.Begins: it answers; the tables stay. Calls of nil, run once, whatever the texts; a store that begins, and what Roots says of it without one to tell. Walk of SnapNil. -/
import Derived.Test.YtgleieifinfcdaaGreatDoorQ18
import Derived.Test.YtgleieifinfcdaaGreatDoorQ31
import Derived.Test.YtgleieifinfcdaaGreatDoorQ23
import Derived.Deep.DeepCutAuto
import Derived.Deep.QuietTactic
import Derived.BigQuiet
import Derived.WalkMore
import Derived.ProofKit
import Derived.Carry
import Derived.ChangeSame
import Derived.Deep.DeepHandedRow
import Derived.Deep.WholeRow
import Derived.Laws.OwnMore
import Derived.IntWalk
import Derived.OpenShut
import Derived.WalkKit
import Derived.Tactics
set_option linter.all false
namespace Go.Proofs.YtgleieifinfcdaaGreatDoor
open Go
noncomputable section
def pc23 : CE := ⟨103, [(Pt 101 0), (I 96), (I 64), (St [0, 3])], 123, [(0, gFirst.2.obj),
 (1, gK.2.obj),
 (3, gBr),
 (4, gHalves.2.obj),
 (100, (.chan 450 ⟨(List.replicate 177 (Ag qr0))⟩ false 512 0 false)),
 (101, (.cells ⟨[(.int .i64 (.negSucc 0)), e0, (Sx 100 0 177 177), s0, ff, (U 0)]⟩ 212 (0, 0)))], (I 0), 5214, [(0, gFirst.2.obj),
 (1, gK.2.obj),
 (3, gBr),
 (4, gHalves.2.obj),
 (100, (.chan 450 ⟨([(Ag qr92), (Ag qr91), (Ag qr0), (Ag qr5), (Ag qr6), (Ag qr7)] ++ (List.replicate 92 (Ag qr0)) ++ [(Ag qr2)] ++ (List.replicate 78 (Ag qr0)))⟩ false 512 0 false)),
 (101, (.cells ⟨[(.int .i64 (.negSucc 0)), e0, (Sx 100 0 177 177), s0, ff, (U 74)]⟩ 212 (0, 0)))]⟩
def Ev23 : Env := E2.more (pieceOf [pc21, pc22])
theorem Ev23_ok : Ev23.Ok := pieces_more fun c hc args s h => by
  simp only [List.mem_cons, List.not_mem_nil, or_false] at hc
  rcases hc with rfl | rfl
  · exact pc21_call h
  · exact pc22_call h
set_option maxRecDepth 1000000 in
theorem pc23_ok : pc23.good Ev23 1000000 = true := by kernel_rfl
theorem pc23_call {args : List Value} {s : AS} (h : pc23.is args s = true) : CallOk E2 pc23.f args s pc23.v (pc23.to s) := piece_ok (E := Ev23) Ev23_ok pc23_ok h
end
end Go.Proofs.YtgleieifinfcdaaGreatDoor
namespace Go.Proofs.YtgleieifinfcdaaGreatDoor
open Go
noncomputable section
def pc24 : CE := ⟨276, [(Pt 101 0)], 5214, [(0, gFirst.2.obj),
 (1, gK.2.obj),
 (3, gBr),
 (4, gHalves.2.obj),
 (100, (.chan 450 ⟨([(Ag qr92), (Ag qr91), (Ag qr0), (Ag qr5), (Ag qr6), (Ag qr7)] ++ (List.replicate 92 (Ag qr0)) ++ [(Ag qr2)] ++ (List.replicate 78 (Ag qr0)))⟩ false 512 0 false)),
 (101, (.cells ⟨[(.int .i64 (.negSucc 0)), e0, (Sx 100 0 177 177), s0, ff, (U 74)]⟩ 212 (0, 0)))], (Tu [(Pt 6005 0), (Sg 6033 0 0 1 1), (I 0)]), 6035, [(0, gFirst.2.obj),
 (1, gK.2.obj),
 (3, gBr),
 (4, gHalves.2.obj),
 (100, (.chan 450 ⟨([(Ag qr92), (Ag qr91), (Ag qr0), (Ag qr5), (Ag qr6), (Ag qr7)] ++ (List.replicate 92 (Ag qr0)) ++ [(Ag qr2)] ++ (List.replicate 78 (Ag qr0)))⟩ false 512 0 false)),
 (101, (.cells ⟨[(.int .i64 (.negSucc 0)), e0, (Sx 100 0 177 177), s0, ff, (U 74)]⟩ 212 (0, 0))),
 (6005, (.cells ⟨[(Pt 101 0), (U 2), (U 1), (I 96), (St [0, 64, 0, 3]), (I 0), (U 4), (I 96), ff]⟩ 429 (0, 0))),
 (6033, (.cells ⟨[(St qt11)]⟩ 9 (0, 0)))]⟩
set_option maxRecDepth 1000000 in
theorem pc24_ok : pc24.good E2 1000000 = true := by kernel_rfl
theorem pc24_call {args : List Value} {s : AS} (h : pc24.is args s = true) : CallOk E2 pc24.f args s pc24.v (pc24.to s) := piece_ok (E := E2) E2_ok pc24_ok h
end
end Go.Proofs.YtgleieifinfcdaaGreatDoor
namespace Go.Proofs.YtgleieifinfcdaaGreatDoor
open Go
noncomputable section
def pc25 : CE := ⟨42, [(Pt 101 0)], 5214, [(0, gFirst.2.obj),
 (1, gK.2.obj),
 (3, gBr),
 (4, gHalves.2.obj),
 (100, (.chan 450 ⟨([(Ag qr92), (Ag qr91), (Ag qr0), (Ag qr5), (Ag qr6), (Ag qr7)] ++ (List.replicate 92 (Ag qr0)) ++ [(Ag qr2)] ++ (List.replicate 78 (Ag qr0)))⟩ false 512 0 false)),
 (101, (.cells ⟨[(.int .i64 (.negSucc 0)), e0, (Sx 100 0 177 177), s0, ff, (U 74)]⟩ 212 (0, 0)))], (Tu [(Pt 6780 0), (I 0)]), 6817, [(0, gFirst.2.obj),
 (1, gK.2.obj),
 (3, gBr),
 (4, gHalves.2.obj),
 (100, (.chan 450 ⟨([(Ag qr92), (Ag qr93), (Ag qr0), (Ag qr5), (Ag qr6), (Ag qr7)] ++ (List.replicate 92 (Ag qr0)) ++ [(Ag qr12)] ++ (List.replicate 78 (Ag qr0)))⟩ false 512 0 false)),
 (101, (.cells ⟨[(.int .i64 (.negSucc 0)), e0, (Sx 100 0 177 177), s0, ff, (U 79)]⟩ 212 (0, 0))),
 (6005, (.cells ⟨[(Pt 101 0), (U 3), (U 4), (I 96), (St [0, 64, 0, 3]), (I 1), (U 4), (I 0), ff]⟩ 429 (0, 0))),
 (6035, (.map ⟨[⟨(I 0), (Ag qr12), 0⟩, ⟨(I 1), (Ag qr0), 1⟩]⟩ 2)),
 (6036, (.map ⟨[]⟩ 0)),
 (6037, (.map ⟨[]⟩ 0)),
 (6038, (.cells ⟨[(Pt 6005 0), (Pt 101 0), (I 64), (St [0, 3]), (Mp 6035), (Mp 6036), (Mp 6037), ff]⟩ 247 (0, 0))),
 (6434, (.cells ⟨[(Pt 6038 0), (Pt 6038 0), (I 32), (I 4), (I 0), (Pt 6038 0), (I 32), (I 6), (I 0), (Pt 6038 0), (I 4), (I 4), (I 0), (Pt 6038 0), (I 17), (I 33), (I 0), (Pt 6038 0), (I 1), (I 1), (I 0), (Pt 6038 0), (I 32), (I 5), (I 0), (Pt 6038 0), (I 33), (I 4), (I 0), (Pt 6038 0), (I 2), (I 5), (I 0), ff, (I 0)]⟩ 133 (0, 0))),
 (6780, (.cells ⟨[(Pt 6434 0), (I 3)]⟩ 125 (0, 0)))]⟩
def Ev25 : Env := E2.more (pieceOf [pc24])
theorem Ev25_ok : Ev25.Ok := pieces_more fun c hc args s h => by
  simp only [List.mem_cons, List.not_mem_nil, or_false] at hc
  subst hc
  exact pc24_call h
set_option maxRecDepth 1000000 in
theorem pc25_ok : pc25.good Ev25 1000000 = true := by kernel_rfl
theorem pc25_call {args : List Value} {s : AS} (h : pc25.is args s = true) : CallOk E2 pc25.f args s pc25.v (pc25.to s) := piece_ok (E := Ev25) Ev25_ok pc25_ok h
end
end Go.Proofs.YtgleieifinfcdaaGreatDoor
namespace Go.Proofs.YtgleieifinfcdaaGreatDoor
open Go Go.RowKit
noncomputable section
def EvBegins : Env := E2.more (pieceOf [pc6, pc23, pc25])
theorem EvBegins_ok : EvBegins.Ok := pieces_more fun c hc args s h => by
  simp only [List.mem_cons, List.not_mem_nil, or_false] at hc
  rcases hc with rfl | rfl | rfl
  · exact pc6_call h
  · exact pc23_call h
  · exact pc25_call h
end
end Go.Proofs.YtgleieifinfcdaaGreatDoor
namespace Go.Proofs.YtgleieifinfcdaaGreatDoor
open Go Go.RowKit
noncomputable section
def zS : Value := .slice none 0 0
def zH : Value := .agg ⟨ints .u8 (List.replicate 32 0)⟩
set_option maxRecDepth 1000000
theorem nilB_get (n : ByteArray) : runB E2 5 [p0, .string n] (Tu [Ag (ints .u8 [0, 0, 0, 0, 0, 0, 0, 0, 0, 0, 0, 0, 0, 0, 0, 0, 0, 0, 0, 0, 0, 0, 0, 0, 0, 0, 0, 0, 0, 0, 0, 0]), .int .u8 (.ofNat 0), I 1]) = true := by kernel_rfl
theorem nilB_list : runB E2 6 [p0] (Tu [zS, I 1]) = true := by kernel_rfl
theorem nilB_create (n : ByteArray) : runB E2 8 [p0, .string n, zS] (I 1) = true := by kernel_rfl
theorem nilB_delete (n : ByteArray) : runB E2 9 [p0, .string n] (I 1) = true := by kernel_rfl
theorem nilB_recover : runB E2 10 [p0] (I 1) = true := by kernel_rfl
theorem nilB_roots : runB E2 11 [p0, .nilFunc] (I 1) = true := by kernel_rfl
/-! ### a store that begins -/
def begR : Option (Value × AS) := wCall EvBegins (wCode EvBegins 1000000) 7 [I 3, I 64] gs0
def stoR (k : Nat) (s : AS) : Option (Value × AS) := wCall E2 (wCode E2 1000000) 12 [.pointer (some ⟨k, 0, none⟩)] s
def rooR (k : Nat) (s : AS) : Option (Value × AS) := wCall E2 (wCode E2 1000000) 11 [.pointer (some ⟨k, 0, none⟩), .nilFunc] s
def ptrR (r : Option (Value × AS)) (f : Nat → AS → Bool) : Bool := match r with
  | some (.pointer (some ⟨k, 0, none⟩), s) => Bool.rec (motive := fun _ => Bool) false (f k s) (holds s gL)
  | _ => false
def tupR (r : Option (Value × AS)) (f : Nat → AS → Bool) : Bool := match r with
  | some (.tuple ⟨[.pointer (some ⟨k, 0, none⟩), .bool true]⟩, s) => Bool.rec (motive := fun _ => Bool) false (f k s) (holds s gL)
  | _ => false
def oneR (r : Option (Value × AS)) : Bool := match r with
  | some (.int .i64 (.ofNat 1), s) => holds s gL
  | _ => false
theorem ptrR_ok {r : Option (Value × AS)} {f : Nat → AS → Bool} (h : ptrR r f = true) : ∃ k s, r = some (.pointer (some ⟨k, 0, none⟩), s) ∧ f k s = true ∧ holds s gL = true := by
  unfold ptrR at h
  split at h
  · obtain ⟨h1, h2⟩ := bbrec h
    exact ⟨_, _, rfl, h2, h1⟩
  · cases h
theorem tupR_ok {r : Option (Value × AS)} {f : Nat → AS → Bool} (h : tupR r f = true) : ∃ k s, r = some (.tuple ⟨[.pointer (some ⟨k, 0, none⟩), .bool true]⟩, s) ∧ f k s = true ∧ holds s gL = true := by
  unfold tupR at h
  split at h
  · obtain ⟨h1, h2⟩ := bbrec h
    exact ⟨_, _, rfl, h2, h1⟩
  · cases h
theorem oneR_ok {r : Option (Value × AS)} (h : oneR r = true) : ∃ s, r = some (.int .i64 1, s) ∧ holds s gL = true := by
  unfold oneR at h
  split at h
  · exact ⟨_, rfl, h⟩
  · cases h
theorem beg_run : tupR begR (fun k s => ptrR (stoR k s) fun q s2 => oneR (rooR q s2)) = true := by kernel_rfl
/-- behind a run: what came of the memory of the tables -/
structure Ran (W : World) (s : AS) (ι : Emb) (w : World) : Prop where
  tr : Tr Tryz.prog 7 io0 gs0.mem W ι s.mem w
  tab : holds s gL = true
theorem Ran.below {W : World} (h : TabW W) {s : AS} {ι : Emb} {w : World} (r : Ran W s ι w) : Below W.heap.size W w := by
  have ht := r.tr
  have hh := holds_ok r.tab
  refine ⟨ht.os, ht.tape, ht.output, ht.size, fun j hj => ?_⟩
  by_cases hm : ∃ o, (j, o) ∈ gL
  · obtain ⟨o, hm⟩ := hm
    obtain ⟨hk, c, e, rfl, hf, hu⟩ := gL_row j o hm
    obtain ⟨b, o', hb, hw, hr⟩ := ht.rep.obj j _ (hh _ hm)
    obtain ⟨l1, l2⟩ := ht.le j j (if_pos hk)
    rw [l1] at hb
    cases hb
    have hx : ι.x j = 0 := l2
    rw [hx] at hr
    rw [hw, h.tab _ _ hm, flat_row hf hu hr]
  · refine ht.keep j hj fun k hk hb => ?_
    obtain ⟨o, ho⟩ := Option.ne_none_iff_exists'.1 hk
    have hm2 := gL_get ho
    have hk7 := (gL_row k o hm2).1
    have : io0.b k = some k := if_pos hk7
    rw [this] at hb
    cases hb
    exact hm ⟨o, hm2⟩
theorem Ran.on {W : World} {s : AS} {ι : Emb} {w w' : World} (r : Ran W s ι w) (hb : Below w.heap.size w w') : Ran W s ι w' := ⟨r.tr.trans (Tr.below r.tr.rep hb), r.tab⟩
theorem Ran.call {E : Env} (hE : E.Ok) (hP : E.P = Tryz.prog) (hG : E.C.G = 7) {W : World} {s s' : AS} {ι : Emb} {w : World} (r : Ran W s ι w) {N : Nat} {f : FuncId} {args args' : List Value} {v : Value} (h : wCall E (wCode E N) f args s = some (v, s'))
    (ht : holds s' gL = true) (ha : VRl ι args args') : Calls Tryz.prog f args'.toArray w fun e w' => ∃ ι' v', e = .returned v' ∧ VR ι' v v' ∧ Ran W s' ι' w' := by
  have hc := turbo_ok hE h (ι := ι) (w := w) (args' := args') (by rw [hP, hG]; exact r.tr.rep) ha
  rw [hP, hG] at hc
  refine hc.mono ?_
  rintro e w' ⟨ι', v', rfl, h1, h2⟩
  exact ⟨ι', v', rfl, h2, r.tr.trans h1, ht⟩
theorem Ran.start {W : World} (h : TabW W) : Ran W gs0 io0 W := ⟨Tr.refl (rep0 h), by kernel_rfl⟩
/-- a store that began -/
structure Beg (W : World) (b : Nat) (w : World) : Prop where
  run : ∃ (k : Nat) (s : AS) (ι : Emb) (q : Nat) (s2 s3 : AS), Ran W s ι w ∧ ι.b k = some b ∧ stoR k s = some (.pointer (some ⟨q, 0, none⟩), s2) ∧ holds s2 gL = true ∧ rooR q s2 = some (.int .i64 1, s3) ∧ holds s3 gL = true
theorem Beg.on {W : World} {b : Nat} {w w' : World} (h : Beg W b w) (hb : Below w.heap.size w w') : Beg W b w' := by
  obtain ⟨k, s, ι, q, s2, s3, hr, h2⟩ := h.run
  exact ⟨k, s, ι, q, s2, s3, hr.on hb, h2⟩
theorem beg_any (W : World) (h : TabW W) : Calls Tryz.prog 7 #[.int .i64 3, .int .i64 64] W fun e w' => ∃ b, e = .returned (.tuple #[.pointer (some ⟨b, 0, none⟩), .bool true]) ∧ Beg W b w' := by
  obtain ⟨k, s, h1, h2, h3⟩ := tupR_ok beg_run
  obtain ⟨q, s2, h4, h5, h6⟩ := ptrR_ok h2
  obtain ⟨s3, h7, h8⟩ := oneR_ok h5
  refine ((Ran.start h).call EvBegins_ok rfl rfl h1 h3 (args' := [I 3, I 64]) (VRl.flat rfl)).mono ?_
  rintro e w' ⟨ι, v, rfl, hv, hr⟩
  cases hv with
  | @tuple c c' hs hc =>
    match c', hs, hc with
    | ⟨[a, b]⟩, _, hc =>
      have ha := hc 0 (Nat.zero_lt_succ _) (Nat.zero_lt_succ _)
      have hb := hc 1 (Nat.lt_succ_self _) (Nat.lt_succ_self _)
      cases ha with
      | ptr hk =>
        cases hb with
        | bool => exact ⟨_, rfl, ⟨k, s, ι, q, s2, s3, hr, hk, h4, h6, h7, h8⟩⟩
/-- its store, and Roots of it without one to tell -/
theorem st_any {W : World} {b : Nat} {w : World} (h : Beg W b w) : Calls Tryz.prog 12 #[.pointer (some ⟨b, 0, none⟩)] w fun e w' => ∃ d, e = .returned (.pointer (some ⟨d, 0, none⟩)) ∧ ∃ (ι : Emb) (q : Nat) (s2 s3 : AS), Ran W s2 ι w' ∧ ι.b q = some d ∧ rooR q s2 = some (.int .i64 1, s3) ∧ holds s3 gL = true := by
  obtain ⟨k, s, ι, q, s2, s3, hr, hk, h4, h6, h7, h8⟩ := h.run
  refine (hr.call E2_ok rfl rfl h4 h6 (args' := [.pointer (some ⟨b, 0, none⟩)]) (VRl.cons (.ptr hk) VRl.nil)).mono ?_
  rintro e w' ⟨ι', v, rfl, hv, hr'⟩
  cases hv with
  | ptr hq => exact ⟨_, rfl, ι', q, s2, s3, hr', hq, h7, h8⟩
theorem ro_any {W : World} {d : Nat} {w : World} (h : ∃ (ι : Emb) (q : Nat) (s2 s3 : AS), Ran W s2 ι w ∧ ι.b q = some d ∧ rooR q s2 = some (.int .i64 1, s3) ∧ holds s3 gL = true) : Calls Tryz.prog 11 #[.pointer (some ⟨d, 0, none⟩), .nilFunc] w fun e w' => e = .returned (.int .i64 1) ∧ ∃ (ι : Emb) (s : AS), Ran W s ι w' := by
  obtain ⟨ι, q, s2, s3, hr, hq, h7, h8⟩ := h
  refine (hr.call E2_ok rfl rfl h7 h8 (args' := [.pointer (some ⟨d, 0, none⟩), .nilFunc]) (VRl.cons (.ptr hq) (VRl.cons .nilFunc VRl.nil))).mono ?_
  rintro e w' ⟨ι', v, rfl, hv, hr'⟩
  cases hv with
  | int => exact ⟨rfl, ι', s3, hr'⟩
end
end Go.Proofs.YtgleieifinfcdaaGreatDoor
namespace Go.Proofs.YtgleieifinfcdaaGreatDoor
open Go Go.RowKit
def NilQ (W : World) (v : Value) (e : Ending) (w' : World) : Prop := e = .returned v ∧ Below W.heap.size W w'
theorem nil_any {f : FuncId} {args : List Value} {v : Value} (hB : runB E2 f args v = true) (hf : args.all flat = true) (hv : flat2 v = true) {W : World} (h : TabW W) : Calls Tryz.prog f args.toArray W (NilQ W v) := run_any E2_ok rfl rfl hB hf hv h
theorem flatTu {l : List Value} (h : l.all flat = true) : flat2 (.tuple ⟨l⟩) = true := by
  show (⟨l⟩ : Array Value).all flat = true
  rw [List.all_toArray] <;> exact h
theorem flatAg {l : List Value} (h : l.all flat1 = true) : flat (.agg ⟨l⟩) = true := by
  show (⟨l⟩ : Array Value).all flat1 = true
  rw [List.all_toArray] <;> exact h
def zHash : Array Value := #[.int .u8 0, .int .u8 0, .int .u8 0, .int .u8 0, .int .u8 0, .int .u8 0, .int .u8 0, .int .u8 0, .int .u8 0, .int .u8 0, .int .u8 0, .int .u8 0, .int .u8 0, .int .u8 0, .int .u8 0, .int .u8 0, .int .u8 0, .int .u8 0, .int .u8 0, .int .u8 0, .int .u8 0, .int .u8 0, .int .u8 0, .int .u8 0, .int .u8 0, .int .u8 0, .int .u8 0, .int .u8 0, .int .u8 0, .int .u8 0, .int .u8 0, .int .u8 0]
theorem zHash_info : (Tryz.prog.info? 24).map (·.size) = some zHash.size := by kernel_rfl
theorem zHash_one : zHash.all (·.oneCell') = true := by kernel_rfl
theorem getNil_any (n : ByteArray) (W : World) (h : TabW W) : Calls Tryz.prog 5 #[.pointer none, .string n] W (NilQ W (.tuple #[.agg zHash, .int .u8 0, .int .i64 1])) :=
  nil_any (nilB_get n) rfl (flatTu (by rw [List.all_cons, flatAg (List.all_eq_true.2 fun v hv => ints_flat (kd := .u8) _ v hv)]; rfl)) h
set_option maxHeartbeats 4000000 in
set_option maxRecDepth 20000 in
theorem snapNil_any (n : ByteArray) (W : World) (h : TabW W) : Calls Tryz.prog 3 #[.string n] W (NilQ W (.bool true)) := by
  have HT := hide h
  have HWk := fun W' (h' : TabW W') => hide (wakes_any W' h')
  have HBg := fun W' (h' : TabW W') => hide (beg_any W' h')
  obtain ⟨zh, hzh⟩ : ∃ zh, zh = zHash := ⟨_, rfl⟩
  have HG := hide (show Calls Tryz.prog 5 #[.pointer none, .string n] W (NilQ W (.tuple #[.agg zh, .int .u8 0, .int .i64 1])) from hzh ▸ getNil_any n W h)
  have HZ1 := hide (show (Tryz.prog.info? 24).map (·.size) = some zh.size from hzh ▸ zHash_info)
  have HZ2 := hide (show zHash.size = zh.size from hzh ▸ rfl)
  have HZ3 := hide (show zh.all (·.oneCell') = true from hzh ▸ zHash_one)
  clear hzh
  generalize hQ : NilQ W (.bool true) = Q
  have HQ := hide hQ
  clear h hQ
  go_enter Tryz.func3, Tryz.ntmps3
  go_wp2_with fail
  · have hw := HWk W HT.out
    refine hw.out.mono ?_
    rintro e w' ⟨rfl, hb⟩
    go_wp2_with fail
    rw [← HQ.out]
    exact ⟨rfl, hb⟩
  · have HB0 := hide (Below.refl W.heap.size W)
    have HT0 := HT
    have HC := hide (show Calls Tryz.prog 5 #[.pointer none, .string n] W (NilQ W (.tuple #[.agg zh, .int .u8 0, .int .i64 1])) from HG.out)
    refine HC.out.mono ?_
    rintro e w1 ⟨rfl, hb⟩
    have HB1 := hide (HB0.out.trans (hb.mono HB0.out.size))
    have HT1 := hide (HT0.out.below hb)
    clear hb HC
    go_wp2_with (refine wpList_store_new _ rfl 24 _ _ rfl _ zh rfl rfl HZ1.out HZ2.out HZ3.out ?_)
    have ha1 : Below w1.heap.size w1 (w1.alloc (.cells zh 24)) := (Below.refl _ _).alloc (Nat.le_refl _) _
    have HB1 := hide (HB1.out.trans (ha1.mono HB1.out.size))
    have HT1 := hide (HT1.out.below ha1)
    clear ha1
    generalize w1.alloc (.cells zh 24) = v1 at *
    have HC := hide (show Calls Tryz.prog 6 #[.pointer none] v1 (NilQ v1 (.tuple #[.slice none 0 0, .int .i64 1])) from nil_any nilB_list (by simp [flat, flat1, zS]) (by first | (simp [flat2, flat, flat1, zS]; done) | kernel_rfl) HT1.out)
    refine HC.out.mono ?_
    rintro e w2 ⟨rfl, hb⟩
    have HB2 := hide (HB1.out.trans (hb.mono HB1.out.size))
    have HT2 := hide (HT1.out.below hb)
    clear hb HC
    go_wp2_with fail
    have HC := HBg w2 HT2.out
    refine HC.out.mono ?_
    rintro e w3 ⟨b, rfl, hs⟩
    have HS3 := hide hs
    obtain ⟨_, _, _, _, _, _, hr, _⟩ := hs.run
    have hb := hr.below HT2.out
    have HB3 := hide (HB2.out.trans (hb.mono HB2.out.size))
    have HT3 := hide (HT2.out.below hb)
    clear hb hs hr HC
    go_wp2_with fail
    have HC := hide (show Calls Tryz.prog 8 #[.pointer none, .string n, .slice none 0 0] w3 (NilQ w3 (.int .i64 1)) from nil_any (nilB_create n) (by simp [flat, flat1, zS]) (by first | (simp [flat2, flat, flat1, zS]; done) | kernel_rfl) HT3.out)
    refine HC.out.mono ?_
    rintro e w4 ⟨rfl, hb⟩
    have HB4 := hide (HB3.out.trans (hb.mono HB3.out.size))
    have HT4 := hide (HT3.out.below hb)
    have HS4 := hide (HS3.out.on hb)
    clear hb HC
    go_wp2_with fail
    have HC := hide (show Calls Tryz.prog 9 #[.pointer none, .string n] w4 (NilQ w4 (.int .i64 1)) from nil_any (nilB_delete n) (by simp [flat, flat1, zS]) (by first | (simp [flat2, flat, flat1, zS]; done) | kernel_rfl) HT4.out)
    refine HC.out.mono ?_
    rintro e w5 ⟨rfl, hb⟩
    have HB5 := hide (HB4.out.trans (hb.mono HB4.out.size))
    have HT5 := hide (HT4.out.below hb)
    have HS5 := hide (HS4.out.on hb)
    clear hb HC
    go_wp2_with fail
    have HC := hide (show Calls Tryz.prog 10 #[.pointer none] w5 (NilQ w5 (.int .i64 1)) from nil_any nilB_recover (by simp [flat, flat1, zS]) (by first | (simp [flat2, flat, flat1, zS]; done) | kernel_rfl) HT5.out)
    refine HC.out.mono ?_
    rintro e w6 ⟨rfl, hb⟩
    have HB6 := hide (HB5.out.trans (hb.mono HB5.out.size))
    have HT6 := hide (HT5.out.below hb)
    have HS6 := hide (HS5.out.on hb)
    clear hb HC
    go_wp2_with fail
    have HC := hide (show Calls Tryz.prog 11 #[.pointer none, .nilFunc] w6 (NilQ w6 (.int .i64 1)) from nil_any nilB_roots (by simp [flat, flat1, zS]) (by first | (simp [flat2, flat, flat1, zS]; done) | kernel_rfl) HT6.out)
    refine HC.out.mono ?_
    rintro e w7 ⟨rfl, hb⟩
    have HB7 := hide (HB6.out.trans (hb.mono HB6.out.size))
    have HT7 := hide (HT6.out.below hb)
    have HS7 := hide (HS6.out.on hb)
    clear hb HC
    go_wp2_with fail
    have HC := hide (st_any HS7.out)
    refine HC.out.mono ?_
    rintro e ws ⟨d, rfl, hd⟩
    have HD := hide hd
    clear hd HC
    go_wp2_with fail
    have HC := hide (ro_any HD.out)
    refine HC.out.mono ?_
    rintro e wr ⟨rfl, ι, s, hr⟩
    have hb := hr.below HT2.out
    have HBr := hide (HB2.out.trans (hb.mono HB2.out.size))
    have HTr := hide (HT2.out.below hb)
    clear hb hr HC
    go_wp2_with fail
    have hw := HWk wr HTr.out
    refine hw.out.mono ?_
    rintro e w' ⟨rfl, hb⟩
    have HBz := hide (HBr.out.trans (hb.mono HBr.out.size))
    clear hb
    go_wp2_with fail
    rw [← HQ.out]
    exact ⟨rfl, HBz.out⟩
end Go.Proofs.YtgleieifinfcdaaGreatDoor
