/- Walk of the document's kept: is a name kept by Last or a rule? -/
import Derived.Test.YtbajnkkekibdmaaDoorW5
import Derived.Test.YtbajnkkekibdmaaDoorW7
import Derived.Test.YtbajnkkekibdmaaDoorPlain2
import Derived.Maps.OwnSet
import Derived.Maps.OwnOps
import Derived.StillTailTactics
namespace Go.Proofs.YtbajnkkekibdmaaDoor
open Go.RowKit Go.Shelf Go.Lib

def aheadTo (ns : List Pl.Bs) (nm : Pl.Bs) (k : Nat) : Nat := ((ns.take k).filter fun m => Pl.has m && Pl.newer m nm).length
theorem aheadTo_step (ns : List Pl.Bs) (nm : Pl.Bs) (k : Nat) (h : k < ns.length) : aheadTo ns nm (k + 1) = aheadTo ns nm k + (if (Pl.has ns[k] && Pl.newer ns[k] nm) = true then 1 else 0) := by
  unfold aheadTo
  rw [List.take_succ_eq_append_getElem h, List.filter_append, List.length_append]
  split
  · rename_i hc; simp [hc]
  · rename_i hc; simp [hc]
theorem aheadTo_end (ns : List Pl.Bs) (nm : Pl.Bs) : aheadTo ns nm ns.length = Pl.ahead ns nm := by unfold aheadTo Pl.ahead; rw [List.take_length]
theorem aheadTo_le (ns : List Pl.Bs) (nm : Pl.Bs) (k : Nat) : aheadTo ns nm k ≤ k := by
  unfold aheadTo
  have h1 := List.length_filter_le (fun m => Pl.has m && Pl.newer m nm) (ns.take k)
  have h2 := List.length_take_le k ns
  omega
def firstTo (ns : List Pl.Bs) (sp : Int) (nm : Pl.Bs) (k : Nat) : Bool := (ns.take k).all fun m => !(Pl.has m) || !(Pl.per sp m == Pl.per sp nm) || !(Pl.newer m nm)
theorem firstTo_step (ns : List Pl.Bs) (sp : Int) (nm : Pl.Bs) (k : Nat) (h : k < ns.length) : firstTo ns sp nm (k + 1) = (firstTo ns sp nm k && (!(Pl.has ns[k]) || !(Pl.per sp ns[k] == Pl.per sp nm) || !(Pl.newer ns[k] nm))) := by
  unfold firstTo
  rw [List.take_succ_eq_append_getElem h, List.all_append]
  simp
theorem firstTo_end (ns : List Pl.Bs) (sp : Int) (nm : Pl.Bs) : firstTo ns sp nm ns.length = Pl.first ns sp nm := by unfold firstTo Pl.first; rw [List.take_length]
def keysTo (ns : List Pl.Bs) (sp : Int) (nm : Pl.Bs) (k : Nat) : List Int := ((ns.take k).filter fun m => Pl.has m && decide (Pl.per sp nm < Pl.per sp m)).map (Pl.per sp)
theorem keysTo_step (ns : List Pl.Bs) (sp : Int) (nm : Pl.Bs) (k : Nat) (h : k < ns.length) : keysTo ns sp nm (k + 1) = keysTo ns sp nm k ++ (if (Pl.has ns[k] && decide (Pl.per sp nm < Pl.per sp ns[k])) = true then [Pl.per sp ns[k]] else []) := by
  unfold keysTo
  rw [List.take_succ_eq_append_getElem h, List.filter_append, List.map_append]
  congr 1
  split
  · rename_i hc; simp [hc]
  · rename_i hc; simp [hc]
theorem keysTo_end (ns : List Pl.Bs) (sp : Int) (nm : Pl.Bs) : (Pl.uniq (keysTo ns sp nm ns.length)).length = Pl.later ns sp nm := by unfold keysTo Pl.later; rw [List.take_length]

def setK (l : List Int) : DataW Unit := Maps.setOf (.lit (.bool true)) (l.map fun x => .int .u32 x)
theorem setK_snoc (l : List Int) (x : Int) : setK (l ++ [x]) = (setK l).put (.int .u32 x) (.lit (.bool true)) := by
  unfold setK
  rw [List.map_append, List.map_cons, List.map_nil, Maps.setOf_snoc]
theorem addKeys (l : List Int) : ∀ acc : List Int, (l.map fun x => Lit.int .u32 x).foldl Maps.addKey (acc.map fun x => .int .u32 x) = (l.foldl Pl.add acc).map fun x => Lit.int .u32 x := by
  induction l with
  | nil => intro acc; rfl
  | cons x l ih =>
    intro acc
    rw [List.map_cons, List.foldl_cons, List.foldl_cons, ← ih]
    congr 1
    unfold Maps.addKey Pl.add
    have e : ((acc.map fun x => Lit.int .u32 x).any fun y => y.sameKey (.int .u32 x)) = decide (x ∈ acc) := by
      rw [Bool.eq_iff_iff, List.any_eq_true, decide_eq_true_eq]
      constructor
      · rintro ⟨y, hy, hs⟩
        obtain ⟨z, hz, rfl⟩ := List.mem_map.1 hy
        have := WideAt.sameKey_eq hs
        injection this with _ h
        exact h ▸ hz
      · intro hx
        exact ⟨_, List.mem_map.2 ⟨x, hx, rfl⟩, WideAt.sameKey_self (by simp [WideAt.IsKeyLit])⟩
    rw [e]
    by_cases hx : x ∈ acc
    · simp [hx]
    · simp [hx]
theorem setK_size (l : List Int) : Maps.size (setK l) = (Pl.uniq l).length := by
  unfold setK
  rw [Maps.size_setOf _ _ (fun x hx => by obtain ⟨z, _, rfl⟩ := List.mem_map.1 hx; simp [WideAt.IsKeyLit])]
  have := addKeys l []
  simp only [List.map_nil] at this
  rw [this, List.length_map]
  rfl
end Go.Proofs.YtbajnkkekibdmaaDoor
