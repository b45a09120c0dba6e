/- The turbo run: temporaries in rows of sixteen (printed by genB1.py). The quick run: operations, compiled. The quick run: operations, compiled (memory, addresses, parts, calls). The quick run: an operation, compiled, does as the fast run's. The quick run: regions. -/
import Derived.Test.YtdcioacjhpnihaaGreatDoorQ4
set_option linter.all false
namespace Go.Proofs.YtdcioacjhpnihaaGreatDoor
open Go
noncomputable section
inductive I16 where
 |i0
 |i1
 |i2
 |i3
 |i4
 |i5
 |i6
 |i7
 |i8
 |i9
 |i10
 |i11
 |i12
 |i13
 |i14
 |i15
structure V16 (α:Type) where
 mk::
 a0:α
 a1:α
 a2:α
 a3:α
 a4:α
 a5:α
 a6:α
 a7:α
 a8:α
 a9:α
 a10:α
 a11:α
 a12:α
 a13:α
 a14:α
 a15:α
def get16 {α:Type}:I16→V16 α→α:=I16.rec (motive:=fun _=>V16 α→α) (fun t=>t.a0) (fun t=>t.a1) (fun t=>t.a2) (fun t=>t.a3) (fun t=>t.a4) (fun t=>t.a5) (fun t=>t.a6) (fun t=>t.a7) (fun t=>t.a8) (fun t=>t.a9) (fun t=>t.a10) (fun t=>t.a11) (fun t=>t.a12) (fun t=>t.a13) (fun t=>t.a14) (fun t=>t.a15)
def p16_0 {α:Type} (v:α):V16 α→V16 α:=V16.rec (motive:=fun _=>V16 α) (fun _ a1 a2 a3 a4 a5 a6 a7 a8 a9 a10 a11 a12 a13 a14 a15=> .mk v a1 a2 a3 a4 a5 a6 a7 a8 a9 a10 a11 a12 a13 a14 a15)
def m16_0 {α:Type} (f:α→α):V16 α→V16 α:=V16.rec (motive:=fun _=>V16 α) (fun a0 a1 a2 a3 a4 a5 a6 a7 a8 a9 a10 a11 a12 a13 a14 a15=> .mk (f a0) a1 a2 a3 a4 a5 a6 a7 a8 a9 a10 a11 a12 a13 a14 a15)
def p16_1 {α:Type} (v:α):V16 α→V16 α:=V16.rec (motive:=fun _=>V16 α) (fun a0 _ a2 a3 a4 a5 a6 a7 a8 a9 a10 a11 a12 a13 a14 a15=> .mk a0 v a2 a3 a4 a5 a6 a7 a8 a9 a10 a11 a12 a13 a14 a15)
def m16_1 {α:Type} (f:α→α):V16 α→V16 α:=V16.rec (motive:=fun _=>V16 α) (fun a0 a1 a2 a3 a4 a5 a6 a7 a8 a9 a10 a11 a12 a13 a14 a15=> .mk a0 (f a1) a2 a3 a4 a5 a6 a7 a8 a9 a10 a11 a12 a13 a14 a15)
def p16_2 {α:Type} (v:α):V16 α→V16 α:=V16.rec (motive:=fun _=>V16 α) (fun a0 a1 _ a3 a4 a5 a6 a7 a8 a9 a10 a11 a12 a13 a14 a15=> .mk a0 a1 v a3 a4 a5 a6 a7 a8 a9 a10 a11 a12 a13 a14 a15)
def m16_2 {α:Type} (f:α→α):V16 α→V16 α:=V16.rec (motive:=fun _=>V16 α) (fun a0 a1 a2 a3 a4 a5 a6 a7 a8 a9 a10 a11 a12 a13 a14 a15=> .mk a0 a1 (f a2) a3 a4 a5 a6 a7 a8 a9 a10 a11 a12 a13 a14 a15)
def p16_3 {α:Type} (v:α):V16 α→V16 α:=V16.rec (motive:=fun _=>V16 α) (fun a0 a1 a2 _ a4 a5 a6 a7 a8 a9 a10 a11 a12 a13 a14 a15=> .mk a0 a1 a2 v a4 a5 a6 a7 a8 a9 a10 a11 a12 a13 a14 a15)
def m16_3 {α:Type} (f:α→α):V16 α→V16 α:=V16.rec (motive:=fun _=>V16 α) (fun a0 a1 a2 a3 a4 a5 a6 a7 a8 a9 a10 a11 a12 a13 a14 a15=> .mk a0 a1 a2 (f a3) a4 a5 a6 a7 a8 a9 a10 a11 a12 a13 a14 a15)
def p16_4 {α:Type} (v:α):V16 α→V16 α:=V16.rec (motive:=fun _=>V16 α) (fun a0 a1 a2 a3 _ a5 a6 a7 a8 a9 a10 a11 a12 a13 a14 a15=> .mk a0 a1 a2 a3 v a5 a6 a7 a8 a9 a10 a11 a12 a13 a14 a15)
def m16_4 {α:Type} (f:α→α):V16 α→V16 α:=V16.rec (motive:=fun _=>V16 α) (fun a0 a1 a2 a3 a4 a5 a6 a7 a8 a9 a10 a11 a12 a13 a14 a15=> .mk a0 a1 a2 a3 (f a4) a5 a6 a7 a8 a9 a10 a11 a12 a13 a14 a15)
def p16_5 {α:Type} (v:α):V16 α→V16 α:=V16.rec (motive:=fun _=>V16 α) (fun a0 a1 a2 a3 a4 _ a6 a7 a8 a9 a10 a11 a12 a13 a14 a15=> .mk a0 a1 a2 a3 a4 v a6 a7 a8 a9 a10 a11 a12 a13 a14 a15)
def m16_5 {α:Type} (f:α→α):V16 α→V16 α:=V16.rec (motive:=fun _=>V16 α) (fun a0 a1 a2 a3 a4 a5 a6 a7 a8 a9 a10 a11 a12 a13 a14 a15=> .mk a0 a1 a2 a3 a4 (f a5) a6 a7 a8 a9 a10 a11 a12 a13 a14 a15)
def p16_6 {α:Type} (v:α):V16 α→V16 α:=V16.rec (motive:=fun _=>V16 α) (fun a0 a1 a2 a3 a4 a5 _ a7 a8 a9 a10 a11 a12 a13 a14 a15=> .mk a0 a1 a2 a3 a4 a5 v a7 a8 a9 a10 a11 a12 a13 a14 a15)
def m16_6 {α:Type} (f:α→α):V16 α→V16 α:=V16.rec (motive:=fun _=>V16 α) (fun a0 a1 a2 a3 a4 a5 a6 a7 a8 a9 a10 a11 a12 a13 a14 a15=> .mk a0 a1 a2 a3 a4 a5 (f a6) a7 a8 a9 a10 a11 a12 a13 a14 a15)
def p16_7 {α:Type} (v:α):V16 α→V16 α:=V16.rec (motive:=fun _=>V16 α) (fun a0 a1 a2 a3 a4 a5 a6 _ a8 a9 a10 a11 a12 a13 a14 a15=> .mk a0 a1 a2 a3 a4 a5 a6 v a8 a9 a10 a11 a12 a13 a14 a15)
def m16_7 {α:Type} (f:α→α):V16 α→V16 α:=V16.rec (motive:=fun _=>V16 α) (fun a0 a1 a2 a3 a4 a5 a6 a7 a8 a9 a10 a11 a12 a13 a14 a15=> .mk a0 a1 a2 a3 a4 a5 a6 (f a7) a8 a9 a10 a11 a12 a13 a14 a15)
def p16_8 {α:Type} (v:α):V16 α→V16 α:=V16.rec (motive:=fun _=>V16 α) (fun a0 a1 a2 a3 a4 a5 a6 a7 _ a9 a10 a11 a12 a13 a14 a15=> .mk a0 a1 a2 a3 a4 a5 a6 a7 v a9 a10 a11 a12 a13 a14 a15)
def m16_8 {α:Type} (f:α→α):V16 α→V16 α:=V16.rec (motive:=fun _=>V16 α) (fun a0 a1 a2 a3 a4 a5 a6 a7 a8 a9 a10 a11 a12 a13 a14 a15=> .mk a0 a1 a2 a3 a4 a5 a6 a7 (f a8) a9 a10 a11 a12 a13 a14 a15)
def p16_9 {α:Type} (v:α):V16 α→V16 α:=V16.rec (motive:=fun _=>V16 α) (fun a0 a1 a2 a3 a4 a5 a6 a7 a8 _ a10 a11 a12 a13 a14 a15=> .mk a0 a1 a2 a3 a4 a5 a6 a7 a8 v a10 a11 a12 a13 a14 a15)
def m16_9 {α:Type} (f:α→α):V16 α→V16 α:=V16.rec (motive:=fun _=>V16 α) (fun a0 a1 a2 a3 a4 a5 a6 a7 a8 a9 a10 a11 a12 a13 a14 a15=> .mk a0 a1 a2 a3 a4 a5 a6 a7 a8 (f a9) a10 a11 a12 a13 a14 a15)
def p16_10 {α:Type} (v:α):V16 α→V16 α:=V16.rec (motive:=fun _=>V16 α) (fun a0 a1 a2 a3 a4 a5 a6 a7 a8 a9 _ a11 a12 a13 a14 a15=> .mk a0 a1 a2 a3 a4 a5 a6 a7 a8 a9 v a11 a12 a13 a14 a15)
def m16_10 {α:Type} (f:α→α):V16 α→V16 α:=V16.rec (motive:=fun _=>V16 α) (fun a0 a1 a2 a3 a4 a5 a6 a7 a8 a9 a10 a11 a12 a13 a14 a15=> .mk a0 a1 a2 a3 a4 a5 a6 a7 a8 a9 (f a10) a11 a12 a13 a14 a15)
def p16_11 {α:Type} (v:α):V16 α→V16 α:=V16.rec (motive:=fun _=>V16 α) (fun a0 a1 a2 a3 a4 a5 a6 a7 a8 a9 a10 _ a12 a13 a14 a15=> .mk a0 a1 a2 a3 a4 a5 a6 a7 a8 a9 a10 v a12 a13 a14 a15)
def m16_11 {α:Type} (f:α→α):V16 α→V16 α:=V16.rec (motive:=fun _=>V16 α) (fun a0 a1 a2 a3 a4 a5 a6 a7 a8 a9 a10 a11 a12 a13 a14 a15=> .mk a0 a1 a2 a3 a4 a5 a6 a7 a8 a9 a10 (f a11) a12 a13 a14 a15)
def p16_12 {α:Type} (v:α):V16 α→V16 α:=V16.rec (motive:=fun _=>V16 α) (fun a0 a1 a2 a3 a4 a5 a6 a7 a8 a9 a10 a11 _ a13 a14 a15=> .mk a0 a1 a2 a3 a4 a5 a6 a7 a8 a9 a10 a11 v a13 a14 a15)
def m16_12 {α:Type} (f:α→α):V16 α→V16 α:=V16.rec (motive:=fun _=>V16 α) (fun a0 a1 a2 a3 a4 a5 a6 a7 a8 a9 a10 a11 a12 a13 a14 a15=> .mk a0 a1 a2 a3 a4 a5 a6 a7 a8 a9 a10 a11 (f a12) a13 a14 a15)
def p16_13 {α:Type} (v:α):V16 α→V16 α:=V16.rec (motive:=fun _=>V16 α) (fun a0 a1 a2 a3 a4 a5 a6 a7 a8 a9 a10 a11 a12 _ a14 a15=> .mk a0 a1 a2 a3 a4 a5 a6 a7 a8 a9 a10 a11 a12 v a14 a15)
def m16_13 {α:Type} (f:α→α):V16 α→V16 α:=V16.rec (motive:=fun _=>V16 α) (fun a0 a1 a2 a3 a4 a5 a6 a7 a8 a9 a10 a11 a12 a13 a14 a15=> .mk a0 a1 a2 a3 a4 a5 a6 a7 a8 a9 a10 a11 a12 (f a13) a14 a15)
def p16_14 {α:Type} (v:α):V16 α→V16 α:=V16.rec (motive:=fun _=>V16 α) (fun a0 a1 a2 a3 a4 a5 a6 a7 a8 a9 a10 a11 a12 a13 _ a15=> .mk a0 a1 a2 a3 a4 a5 a6 a7 a8 a9 a10 a11 a12 a13 v a15)
def m16_14 {α:Type} (f:α→α):V16 α→V16 α:=V16.rec (motive:=fun _=>V16 α) (fun a0 a1 a2 a3 a4 a5 a6 a7 a8 a9 a10 a11 a12 a13 a14 a15=> .mk a0 a1 a2 a3 a4 a5 a6 a7 a8 a9 a10 a11 a12 a13 (f a14) a15)
def p16_15 {α:Type} (v:α):V16 α→V16 α:=V16.rec (motive:=fun _=>V16 α) (fun a0 a1 a2 a3 a4 a5 a6 a7 a8 a9 a10 a11 a12 a13 a14 _=> .mk a0 a1 a2 a3 a4 a5 a6 a7 a8 a9 a10 a11 a12 a13 a14 v)
def m16_15 {α:Type} (f:α→α):V16 α→V16 α:=V16.rec (motive:=fun _=>V16 α) (fun a0 a1 a2 a3 a4 a5 a6 a7 a8 a9 a10 a11 a12 a13 a14 a15=> .mk a0 a1 a2 a3 a4 a5 a6 a7 a8 a9 a10 a11 a12 a13 a14 (f a15))
def put16 {α:Type}:I16→α→V16 α→V16 α:=I16.rec (motive:=fun _=>α→V16 α→V16 α) p16_0 p16_1 p16_2 p16_3 p16_4 p16_5 p16_6 p16_7 p16_8 p16_9 p16_10 p16_11 p16_12 p16_13 p16_14 p16_15
def mod16 {α:Type}:I16→(α→α)→V16 α→V16 α:=I16.rec (motive:=fun _=>(α→α)→V16 α→V16 α) m16_0 m16_1 m16_2 m16_3 m16_4 m16_5 m16_6 m16_7 m16_8 m16_9 m16_10 m16_11 m16_12 m16_13 m16_14 m16_15
def natI:I16→Nat:=I16.rec (motive:=fun _=>Nat) 0 1 2 3 4 5 6 7 8 9 10 11 12 13 14 15
def toI:Nat→I16
 |0=> .i0
 |1=> .i1
 |2=> .i2
 |3=> .i3
 |4=> .i4
 |5=> .i5
 |6=> .i6
 |7=> .i7
 |8=> .i8
 |9=> .i9
 |10=> .i10
 |11=> .i11
 |12=> .i12
 |13=> .i13
 |14=> .i14
 |_=> .i15
theorem natI_toI {k:Nat} (h:k<16):natI (toI k)=k:=by
 match k,h with
 |0,_=>rfl
 |1,_=>rfl
 |2,_=>rfl
 |3,_=>rfl
 |4,_=>rfl
 |5,_=>rfl
 |6,_=>rfl
 |7,_=>rfl
 |8,_=>rfl
 |9,_=>rfl
 |10,_=>rfl
 |11,_=>rfl
 |12,_=>rfl
 |13,_=>rfl
 |14,_=>rfl
 |15,_=>rfl
 |n+16,h=>exact absurd h (by omega)
theorem get_put16 {α:Type} (i j:I16) (v:α) (t:V16 α):get16 i (put16 j v t)=if natI i=natI j then v else get16 i t:=by
 cases t
 cases j<;>cases i<;>rfl
theorem get_mod16 {α:Type} (i j:I16) (f:α→α) (t:V16 α):get16 i (mod16 j f t)=if natI i=natI j then f (get16 i t) else get16 i t:=by
 cases t
 cases j<;>cases i<;>rfl
abbrev EV:=V16 (V16 Value)
def wget (hi lo:I16) (t:EV):Value:=get16 lo (get16 hi t)
def pv_0 (v:Value):V16 Value→V16 Value:=V16.rec (motive:=fun _=>V16 Value) (fun _ a1 a2 a3 a4 a5 a6 a7 a8 a9 a10 a11 a12 a13 a14 a15=> .mk v a1 a2 a3 a4 a5 a6 a7 a8 a9 a10 a11 a12 a13 a14 a15)
def mr_0 (f:V16 Value→V16 Value):EV→EV:=V16.rec (motive:=fun _=>EV) (fun a0 a1 a2 a3 a4 a5 a6 a7 a8 a9 a10 a11 a12 a13 a14 a15=> .mk (f a0) a1 a2 a3 a4 a5 a6 a7 a8 a9 a10 a11 a12 a13 a14 a15)
def pv_1 (v:Value):V16 Value→V16 Value:=V16.rec (motive:=fun _=>V16 Value) (fun a0 _ a2 a3 a4 a5 a6 a7 a8 a9 a10 a11 a12 a13 a14 a15=> .mk a0 v a2 a3 a4 a5 a6 a7 a8 a9 a10 a11 a12 a13 a14 a15)
def mr_1 (f:V16 Value→V16 Value):EV→EV:=V16.rec (motive:=fun _=>EV) (fun a0 a1 a2 a3 a4 a5 a6 a7 a8 a9 a10 a11 a12 a13 a14 a15=> .mk a0 (f a1) a2 a3 a4 a5 a6 a7 a8 a9 a10 a11 a12 a13 a14 a15)
def pv_2 (v:Value):V16 Value→V16 Value:=V16.rec (motive:=fun _=>V16 Value) (fun a0 a1 _ a3 a4 a5 a6 a7 a8 a9 a10 a11 a12 a13 a14 a15=> .mk a0 a1 v a3 a4 a5 a6 a7 a8 a9 a10 a11 a12 a13 a14 a15)
def mr_2 (f:V16 Value→V16 Value):EV→EV:=V16.rec (motive:=fun _=>EV) (fun a0 a1 a2 a3 a4 a5 a6 a7 a8 a9 a10 a11 a12 a13 a14 a15=> .mk a0 a1 (f a2) a3 a4 a5 a6 a7 a8 a9 a10 a11 a12 a13 a14 a15)
def pv_3 (v:Value):V16 Value→V16 Value:=V16.rec (motive:=fun _=>V16 Value) (fun a0 a1 a2 _ a4 a5 a6 a7 a8 a9 a10 a11 a12 a13 a14 a15=> .mk a0 a1 a2 v a4 a5 a6 a7 a8 a9 a10 a11 a12 a13 a14 a15)
def mr_3 (f:V16 Value→V16 Value):EV→EV:=V16.rec (motive:=fun _=>EV) (fun a0 a1 a2 a3 a4 a5 a6 a7 a8 a9 a10 a11 a12 a13 a14 a15=> .mk a0 a1 a2 (f a3) a4 a5 a6 a7 a8 a9 a10 a11 a12 a13 a14 a15)
def pv_4 (v:Value):V16 Value→V16 Value:=V16.rec (motive:=fun _=>V16 Value) (fun a0 a1 a2 a3 _ a5 a6 a7 a8 a9 a10 a11 a12 a13 a14 a15=> .mk a0 a1 a2 a3 v a5 a6 a7 a8 a9 a10 a11 a12 a13 a14 a15)
def mr_4 (f:V16 Value→V16 Value):EV→EV:=V16.rec (motive:=fun _=>EV) (fun a0 a1 a2 a3 a4 a5 a6 a7 a8 a9 a10 a11 a12 a13 a14 a15=> .mk a0 a1 a2 a3 (f a4) a5 a6 a7 a8 a9 a10 a11 a12 a13 a14 a15)
def pv_5 (v:Value):V16 Value→V16 Value:=V16.rec (motive:=fun _=>V16 Value) (fun a0 a1 a2 a3 a4 _ a6 a7 a8 a9 a10 a11 a12 a13 a14 a15=> .mk a0 a1 a2 a3 a4 v a6 a7 a8 a9 a10 a11 a12 a13 a14 a15)
def mr_5 (f:V16 Value→V16 Value):EV→EV:=V16.rec (motive:=fun _=>EV) (fun a0 a1 a2 a3 a4 a5 a6 a7 a8 a9 a10 a11 a12 a13 a14 a15=> .mk a0 a1 a2 a3 a4 (f a5) a6 a7 a8 a9 a10 a11 a12 a13 a14 a15)
def pv_6 (v:Value):V16 Value→V16 Value:=V16.rec (motive:=fun _=>V16 Value) (fun a0 a1 a2 a3 a4 a5 _ a7 a8 a9 a10 a11 a12 a13 a14 a15=> .mk a0 a1 a2 a3 a4 a5 v a7 a8 a9 a10 a11 a12 a13 a14 a15)
def mr_6 (f:V16 Value→V16 Value):EV→EV:=V16.rec (motive:=fun _=>EV) (fun a0 a1 a2 a3 a4 a5 a6 a7 a8 a9 a10 a11 a12 a13 a14 a15=> .mk a0 a1 a2 a3 a4 a5 (f a6) a7 a8 a9 a10 a11 a12 a13 a14 a15)
def pv_7 (v:Value):V16 Value→V16 Value:=V16.rec (motive:=fun _=>V16 Value) (fun a0 a1 a2 a3 a4 a5 a6 _ a8 a9 a10 a11 a12 a13 a14 a15=> .mk a0 a1 a2 a3 a4 a5 a6 v a8 a9 a10 a11 a12 a13 a14 a15)
def mr_7 (f:V16 Value→V16 Value):EV→EV:=V16.rec (motive:=fun _=>EV) (fun a0 a1 a2 a3 a4 a5 a6 a7 a8 a9 a10 a11 a12 a13 a14 a15=> .mk a0 a1 a2 a3 a4 a5 a6 (f a7) a8 a9 a10 a11 a12 a13 a14 a15)
def pv_8 (v:Value):V16 Value→V16 Value:=V16.rec (motive:=fun _=>V16 Value) (fun a0 a1 a2 a3 a4 a5 a6 a7 _ a9 a10 a11 a12 a13 a14 a15=> .mk a0 a1 a2 a3 a4 a5 a6 a7 v a9 a10 a11 a12 a13 a14 a15)
def mr_8 (f:V16 Value→V16 Value):EV→EV:=V16.rec (motive:=fun _=>EV) (fun a0 a1 a2 a3 a4 a5 a6 a7 a8 a9 a10 a11 a12 a13 a14 a15=> .mk a0 a1 a2 a3 a4 a5 a6 a7 (f a8) a9 a10 a11 a12 a13 a14 a15)
def pv_9 (v:Value):V16 Value→V16 Value:=V16.rec (motive:=fun _=>V16 Value) (fun a0 a1 a2 a3 a4 a5 a6 a7 a8 _ a10 a11 a12 a13 a14 a15=> .mk a0 a1 a2 a3 a4 a5 a6 a7 a8 v a10 a11 a12 a13 a14 a15)
def mr_9 (f:V16 Value→V16 Value):EV→EV:=V16.rec (motive:=fun _=>EV) (fun a0 a1 a2 a3 a4 a5 a6 a7 a8 a9 a10 a11 a12 a13 a14 a15=> .mk a0 a1 a2 a3 a4 a5 a6 a7 a8 (f a9) a10 a11 a12 a13 a14 a15)
def pv_10 (v:Value):V16 Value→V16 Value:=V16.rec (motive:=fun _=>V16 Value) (fun a0 a1 a2 a3 a4 a5 a6 a7 a8 a9 _ a11 a12 a13 a14 a15=> .mk a0 a1 a2 a3 a4 a5 a6 a7 a8 a9 v a11 a12 a13 a14 a15)
def mr_10 (f:V16 Value→V16 Value):EV→EV:=V16.rec (motive:=fun _=>EV) (fun a0 a1 a2 a3 a4 a5 a6 a7 a8 a9 a10 a11 a12 a13 a14 a15=> .mk a0 a1 a2 a3 a4 a5 a6 a7 a8 a9 (f a10) a11 a12 a13 a14 a15)
def pv_11 (v:Value):V16 Value→V16 Value:=V16.rec (motive:=fun _=>V16 Value) (fun a0 a1 a2 a3 a4 a5 a6 a7 a8 a9 a10 _ a12 a13 a14 a15=> .mk a0 a1 a2 a3 a4 a5 a6 a7 a8 a9 a10 v a12 a13 a14 a15)
def mr_11 (f:V16 Value→V16 Value):EV→EV:=V16.rec (motive:=fun _=>EV) (fun a0 a1 a2 a3 a4 a5 a6 a7 a8 a9 a10 a11 a12 a13 a14 a15=> .mk a0 a1 a2 a3 a4 a5 a6 a7 a8 a9 a10 (f a11) a12 a13 a14 a15)
def pv_12 (v:Value):V16 Value→V16 Value:=V16.rec (motive:=fun _=>V16 Value) (fun a0 a1 a2 a3 a4 a5 a6 a7 a8 a9 a10 a11 _ a13 a14 a15=> .mk a0 a1 a2 a3 a4 a5 a6 a7 a8 a9 a10 a11 v a13 a14 a15)
def mr_12 (f:V16 Value→V16 Value):EV→EV:=V16.rec (motive:=fun _=>EV) (fun a0 a1 a2 a3 a4 a5 a6 a7 a8 a9 a10 a11 a12 a13 a14 a15=> .mk a0 a1 a2 a3 a4 a5 a6 a7 a8 a9 a10 a11 (f a12) a13 a14 a15)
def pv_13 (v:Value):V16 Value→V16 Value:=V16.rec (motive:=fun _=>V16 Value) (fun a0 a1 a2 a3 a4 a5 a6 a7 a8 a9 a10 a11 a12 _ a14 a15=> .mk a0 a1 a2 a3 a4 a5 a6 a7 a8 a9 a10 a11 a12 v a14 a15)
def mr_13 (f:V16 Value→V16 Value):EV→EV:=V16.rec (motive:=fun _=>EV) (fun a0 a1 a2 a3 a4 a5 a6 a7 a8 a9 a10 a11 a12 a13 a14 a15=> .mk a0 a1 a2 a3 a4 a5 a6 a7 a8 a9 a10 a11 a12 (f a13) a14 a15)
def pv_14 (v:Value):V16 Value→V16 Value:=V16.rec (motive:=fun _=>V16 Value) (fun a0 a1 a2 a3 a4 a5 a6 a7 a8 a9 a10 a11 a12 a13 _ a15=> .mk a0 a1 a2 a3 a4 a5 a6 a7 a8 a9 a10 a11 a12 a13 v a15)
def mr_14 (f:V16 Value→V16 Value):EV→EV:=V16.rec (motive:=fun _=>EV) (fun a0 a1 a2 a3 a4 a5 a6 a7 a8 a9 a10 a11 a12 a13 a14 a15=> .mk a0 a1 a2 a3 a4 a5 a6 a7 a8 a9 a10 a11 a12 a13 (f a14) a15)
def pv_15 (v:Value):V16 Value→V16 Value:=V16.rec (motive:=fun _=>V16 Value) (fun a0 a1 a2 a3 a4 a5 a6 a7 a8 a9 a10 a11 a12 a13 a14 _=> .mk a0 a1 a2 a3 a4 a5 a6 a7 a8 a9 a10 a11 a12 a13 a14 v)
def mr_15 (f:V16 Value→V16 Value):EV→EV:=V16.rec (motive:=fun _=>EV) (fun a0 a1 a2 a3 a4 a5 a6 a7 a8 a9 a10 a11 a12 a13 a14 a15=> .mk a0 a1 a2 a3 a4 a5 a6 a7 a8 a9 a10 a11 a12 a13 a14 (f a15))
def putV:I16→Value→V16 Value→V16 Value:=I16.rec (motive:=fun _=>Value→V16 Value→V16 Value) pv_0 pv_1 pv_2 pv_3 pv_4 pv_5 pv_6 pv_7 pv_8 pv_9 pv_10 pv_11 pv_12 pv_13 pv_14 pv_15
def modR:I16→(V16 Value→V16 Value)→EV→EV:=I16.rec (motive:=fun _=>(V16 Value→V16 Value)→EV→EV) mr_0 mr_1 mr_2 mr_3 mr_4 mr_5 mr_6 mr_7 mr_8 mr_9 mr_10 mr_11 mr_12 mr_13 mr_14 mr_15
def wput (hi lo:I16) (v:Value) (t:EV):EV:=modR hi (putV lo v) t
theorem wput_eq (hi lo:I16) (v:Value) (t:EV):wput hi lo v t=mod16 hi (put16 lo v) t:=by
 have h1:putV lo v=put16 lo v:=by cases lo<;>rfl
 unfold wput
 rw [h1]
 cases hi<;>rfl
def c16 {α:Type} (x:α):V16 α:=⟨x,x,x,x,x,x,x,x,x,x,x,x,x,x,x,x⟩
def ev0:EV:=c16 (c16 undef)
theorem get_c16 {α:Type} (i:I16) (x:α):get16 i (c16 x)=x:=by cases i<;>rfl
def envR (t:EV) (B:T Value):Prop:= ∀k,(B.get k).getD undef=if k<256 then wget (toI (k/16)) (toI (k%16)) t else undef
theorem envR_leaf:envR ev0 .leaf:=fun k=>by
 rw [T.get_leaf]
 split
 ·simp [wget,ev0,get_c16]
 ·rfl
theorem envR_put {t:EV} {B:T Value} (h:envR t B) {k:Nat} (hk:k<256) (v:Value):envR (wput (toI (k/16)) (toI (k%16)) v t) (B.put 100000 k (some v)):=fun j=>by
 rw [T.get_put _ _ _ _ _ (by omega)]
 have hj:=h j
 by_cases e:j=k
 ·subst e
  rw [if_pos rfl,if_pos hk]
  simp only [wget,wput_eq,get_mod16,get_put16,if_pos,Option.getD_some]
 ·rw [if_neg e,hj]
  by_cases hj2:j<256
  ·rw [if_pos hj2,if_pos hj2]
   simp only [wget,wput_eq,get_mod16]
   rw [natI_toI (k:=j/16) (by omega),natI_toI (k:=k/16) (by omega)]
   split
   ·rename_i e1
    rw [get_put16,natI_toI (k:=j%16) (by omega),natI_toI (k:=k%16) (by omega),if_neg (by omega)]
   ·rfl
  ·rw [if_neg hj2,if_neg hj2]
def evW (C:Cfg) (t:EV):Operand→Option Value
 | .tmp k=>some (if k<256 then wget (toI (k/16)) (toI (k%16)) t else undef)
 | .const v=>if flat v then some v else none
 | .global g=>if g<C.G then some (.pointer (some ⟨g,0,none⟩)) else none
 | .func f=>some (.func (.func f) #[] #[])
theorem envR_ev {C:Cfg} {t:EV} {B:T Value} (h:envR t B):evT C B=evW C t:=by
 funext x
 cases x with
 |tmp k=>
  simp only [evT,evW]
  rw [←h k]
  cases B.get k<;>rfl
 |_=>rfl
def rd_0_0:EV→Value:=fun t=>(V16.a0 t).a0
def rd_0_1:EV→Value:=fun t=>(V16.a0 t).a1
def rd_0_2:EV→Value:=fun t=>(V16.a0 t).a2
def rd_0_3:EV→Value:=fun t=>(V16.a0 t).a3
def rd_0_4:EV→Value:=fun t=>(V16.a0 t).a4
def rd_0_5:EV→Value:=fun t=>(V16.a0 t).a5
def rd_0_6:EV→Value:=fun t=>(V16.a0 t).a6
def rd_0_7:EV→Value:=fun t=>(V16.a0 t).a7
def rd_0_8:EV→Value:=fun t=>(V16.a0 t).a8
def rd_0_9:EV→Value:=fun t=>(V16.a0 t).a9
def rd_0_10:EV→Value:=fun t=>(V16.a0 t).a10
def rd_0_11:EV→Value:=fun t=>(V16.a0 t).a11
def rd_0_12:EV→Value:=fun t=>(V16.a0 t).a12
def rd_0_13:EV→Value:=fun t=>(V16.a0 t).a13
def rd_0_14:EV→Value:=fun t=>(V16.a0 t).a14
def rd_0_15:EV→Value:=fun t=>(V16.a0 t).a15
def rd_1_0:EV→Value:=fun t=>(V16.a1 t).a0
def rd_1_1:EV→Value:=fun t=>(V16.a1 t).a1
def rd_1_2:EV→Value:=fun t=>(V16.a1 t).a2
def rd_1_3:EV→Value:=fun t=>(V16.a1 t).a3
def rd_1_4:EV→Value:=fun t=>(V16.a1 t).a4
def rd_1_5:EV→Value:=fun t=>(V16.a1 t).a5
def rd_1_6:EV→Value:=fun t=>(V16.a1 t).a6
def rd_1_7:EV→Value:=fun t=>(V16.a1 t).a7
def rd_1_8:EV→Value:=fun t=>(V16.a1 t).a8
def rd_1_9:EV→Value:=fun t=>(V16.a1 t).a9
def rd_1_10:EV→Value:=fun t=>(V16.a1 t).a10
def rd_1_11:EV→Value:=fun t=>(V16.a1 t).a11
def rd_1_12:EV→Value:=fun t=>(V16.a1 t).a12
def rd_1_13:EV→Value:=fun t=>(V16.a1 t).a13
def rd_1_14:EV→Value:=fun t=>(V16.a1 t).a14
def rd_1_15:EV→Value:=fun t=>(V16.a1 t).a15
def rd_2_0:EV→Value:=fun t=>(V16.a2 t).a0
def rd_2_1:EV→Value:=fun t=>(V16.a2 t).a1
def rd_2_2:EV→Value:=fun t=>(V16.a2 t).a2
def rd_2_3:EV→Value:=fun t=>(V16.a2 t).a3
def rd_2_4:EV→Value:=fun t=>(V16.a2 t).a4
def rd_2_5:EV→Value:=fun t=>(V16.a2 t).a5
def rd_2_6:EV→Value:=fun t=>(V16.a2 t).a6
def rd_2_7:EV→Value:=fun t=>(V16.a2 t).a7
def rd_2_8:EV→Value:=fun t=>(V16.a2 t).a8
def rd_2_9:EV→Value:=fun t=>(V16.a2 t).a9
def rd_2_10:EV→Value:=fun t=>(V16.a2 t).a10
def rd_2_11:EV→Value:=fun t=>(V16.a2 t).a11
def rd_2_12:EV→Value:=fun t=>(V16.a2 t).a12
def rd_2_13:EV→Value:=fun t=>(V16.a2 t).a13
def rd_2_14:EV→Value:=fun t=>(V16.a2 t).a14
def rd_2_15:EV→Value:=fun t=>(V16.a2 t).a15
def rd_3_0:EV→Value:=fun t=>(V16.a3 t).a0
def rd_3_1:EV→Value:=fun t=>(V16.a3 t).a1
def rd_3_2:EV→Value:=fun t=>(V16.a3 t).a2
def rd_3_3:EV→Value:=fun t=>(V16.a3 t).a3
def rd_3_4:EV→Value:=fun t=>(V16.a3 t).a4
def rd_3_5:EV→Value:=fun t=>(V16.a3 t).a5
def rd_3_6:EV→Value:=fun t=>(V16.a3 t).a6
def rd_3_7:EV→Value:=fun t=>(V16.a3 t).a7
def rd_3_8:EV→Value:=fun t=>(V16.a3 t).a8
def rd_3_9:EV→Value:=fun t=>(V16.a3 t).a9
def rd_3_10:EV→Value:=fun t=>(V16.a3 t).a10
def rd_3_11:EV→Value:=fun t=>(V16.a3 t).a11
def rd_3_12:EV→Value:=fun t=>(V16.a3 t).a12
def rd_3_13:EV→Value:=fun t=>(V16.a3 t).a13
def rd_3_14:EV→Value:=fun t=>(V16.a3 t).a14
def rd_3_15:EV→Value:=fun t=>(V16.a3 t).a15
def rd_4_0:EV→Value:=fun t=>(V16.a4 t).a0
def rd_4_1:EV→Value:=fun t=>(V16.a4 t).a1
def rd_4_2:EV→Value:=fun t=>(V16.a4 t).a2
def rd_4_3:EV→Value:=fun t=>(V16.a4 t).a3
def rd_4_4:EV→Value:=fun t=>(V16.a4 t).a4
def rd_4_5:EV→Value:=fun t=>(V16.a4 t).a5
def rd_4_6:EV→Value:=fun t=>(V16.a4 t).a6
def rd_4_7:EV→Value:=fun t=>(V16.a4 t).a7
def rd_4_8:EV→Value:=fun t=>(V16.a4 t).a8
def rd_4_9:EV→Value:=fun t=>(V16.a4 t).a9
def rd_4_10:EV→Value:=fun t=>(V16.a4 t).a10
def rd_4_11:EV→Value:=fun t=>(V16.a4 t).a11
def rd_4_12:EV→Value:=fun t=>(V16.a4 t).a12
def rd_4_13:EV→Value:=fun t=>(V16.a4 t).a13
def rd_4_14:EV→Value:=fun t=>(V16.a4 t).a14
def rd_4_15:EV→Value:=fun t=>(V16.a4 t).a15
def rd_5_0:EV→Value:=fun t=>(V16.a5 t).a0
def rd_5_1:EV→Value:=fun t=>(V16.a5 t).a1
def rd_5_2:EV→Value:=fun t=>(V16.a5 t).a2
def rd_5_3:EV→Value:=fun t=>(V16.a5 t).a3
def rd_5_4:EV→Value:=fun t=>(V16.a5 t).a4
def rd_5_5:EV→Value:=fun t=>(V16.a5 t).a5
def rd_5_6:EV→Value:=fun t=>(V16.a5 t).a6
def rd_5_7:EV→Value:=fun t=>(V16.a5 t).a7
def rd_5_8:EV→Value:=fun t=>(V16.a5 t).a8
def rd_5_9:EV→Value:=fun t=>(V16.a5 t).a9
def rd_5_10:EV→Value:=fun t=>(V16.a5 t).a10
def rd_5_11:EV→Value:=fun t=>(V16.a5 t).a11
def rd_5_12:EV→Value:=fun t=>(V16.a5 t).a12
def rd_5_13:EV→Value:=fun t=>(V16.a5 t).a13
def rd_5_14:EV→Value:=fun t=>(V16.a5 t).a14
def rd_5_15:EV→Value:=fun t=>(V16.a5 t).a15
def rd_6_0:EV→Value:=fun t=>(V16.a6 t).a0
def rd_6_1:EV→Value:=fun t=>(V16.a6 t).a1
def rd_6_2:EV→Value:=fun t=>(V16.a6 t).a2
def rd_6_3:EV→Value:=fun t=>(V16.a6 t).a3
def rd_6_4:EV→Value:=fun t=>(V16.a6 t).a4
def rd_6_5:EV→Value:=fun t=>(V16.a6 t).a5
def rd_6_6:EV→Value:=fun t=>(V16.a6 t).a6
def rd_6_7:EV→Value:=fun t=>(V16.a6 t).a7
def rd_6_8:EV→Value:=fun t=>(V16.a6 t).a8
def rd_6_9:EV→Value:=fun t=>(V16.a6 t).a9
def rd_6_10:EV→Value:=fun t=>(V16.a6 t).a10
def rd_6_11:EV→Value:=fun t=>(V16.a6 t).a11
def rd_6_12:EV→Value:=fun t=>(V16.a6 t).a12
def rd_6_13:EV→Value:=fun t=>(V16.a6 t).a13
def rd_6_14:EV→Value:=fun t=>(V16.a6 t).a14
def rd_6_15:EV→Value:=fun t=>(V16.a6 t).a15
def rd_7_0:EV→Value:=fun t=>(V16.a7 t).a0
def rd_7_1:EV→Value:=fun t=>(V16.a7 t).a1
def rd_7_2:EV→Value:=fun t=>(V16.a7 t).a2
def rd_7_3:EV→Value:=fun t=>(V16.a7 t).a3
def rd_7_4:EV→Value:=fun t=>(V16.a7 t).a4
def rd_7_5:EV→Value:=fun t=>(V16.a7 t).a5
def rd_7_6:EV→Value:=fun t=>(V16.a7 t).a6
def rd_7_7:EV→Value:=fun t=>(V16.a7 t).a7
def rd_7_8:EV→Value:=fun t=>(V16.a7 t).a8
def rd_7_9:EV→Value:=fun t=>(V16.a7 t).a9
def rd_7_10:EV→Value:=fun t=>(V16.a7 t).a10
def rd_7_11:EV→Value:=fun t=>(V16.a7 t).a11
def rd_7_12:EV→Value:=fun t=>(V16.a7 t).a12
def rd_7_13:EV→Value:=fun t=>(V16.a7 t).a13
def rd_7_14:EV→Value:=fun t=>(V16.a7 t).a14
def rd_7_15:EV→Value:=fun t=>(V16.a7 t).a15
def rd_8_0:EV→Value:=fun t=>(V16.a8 t).a0
def rd_8_1:EV→Value:=fun t=>(V16.a8 t).a1
def rd_8_2:EV→Value:=fun t=>(V16.a8 t).a2
def rd_8_3:EV→Value:=fun t=>(V16.a8 t).a3
def rd_8_4:EV→Value:=fun t=>(V16.a8 t).a4
def rd_8_5:EV→Value:=fun t=>(V16.a8 t).a5
def rd_8_6:EV→Value:=fun t=>(V16.a8 t).a6
def rd_8_7:EV→Value:=fun t=>(V16.a8 t).a7
def rd_8_8:EV→Value:=fun t=>(V16.a8 t).a8
def rd_8_9:EV→Value:=fun t=>(V16.a8 t).a9
def rd_8_10:EV→Value:=fun t=>(V16.a8 t).a10
def rd_8_11:EV→Value:=fun t=>(V16.a8 t).a11
def rd_8_12:EV→Value:=fun t=>(V16.a8 t).a12
def rd_8_13:EV→Value:=fun t=>(V16.a8 t).a13
def rd_8_14:EV→Value:=fun t=>(V16.a8 t).a14
def rd_8_15:EV→Value:=fun t=>(V16.a8 t).a15
def rd_9_0:EV→Value:=fun t=>(V16.a9 t).a0
def rd_9_1:EV→Value:=fun t=>(V16.a9 t).a1
def rd_9_2:EV→Value:=fun t=>(V16.a9 t).a2
def rd_9_3:EV→Value:=fun t=>(V16.a9 t).a3
def rd_9_4:EV→Value:=fun t=>(V16.a9 t).a4
def rd_9_5:EV→Value:=fun t=>(V16.a9 t).a5
def rd_9_6:EV→Value:=fun t=>(V16.a9 t).a6
def rd_9_7:EV→Value:=fun t=>(V16.a9 t).a7
def rd_9_8:EV→Value:=fun t=>(V16.a9 t).a8
def rd_9_9:EV→Value:=fun t=>(V16.a9 t).a9
def rd_9_10:EV→Value:=fun t=>(V16.a9 t).a10
def rd_9_11:EV→Value:=fun t=>(V16.a9 t).a11
def rd_9_12:EV→Value:=fun t=>(V16.a9 t).a12
def rd_9_13:EV→Value:=fun t=>(V16.a9 t).a13
def rd_9_14:EV→Value:=fun t=>(V16.a9 t).a14
def rd_9_15:EV→Value:=fun t=>(V16.a9 t).a15
def rd_10_0:EV→Value:=fun t=>(V16.a10 t).a0
def rd_10_1:EV→Value:=fun t=>(V16.a10 t).a1
def rd_10_2:EV→Value:=fun t=>(V16.a10 t).a2
def rd_10_3:EV→Value:=fun t=>(V16.a10 t).a3
def rd_10_4:EV→Value:=fun t=>(V16.a10 t).a4
def rd_10_5:EV→Value:=fun t=>(V16.a10 t).a5
def rd_10_6:EV→Value:=fun t=>(V16.a10 t).a6
def rd_10_7:EV→Value:=fun t=>(V16.a10 t).a7
def rd_10_8:EV→Value:=fun t=>(V16.a10 t).a8
def rd_10_9:EV→Value:=fun t=>(V16.a10 t).a9
def rd_10_10:EV→Value:=fun t=>(V16.a10 t).a10
def rd_10_11:EV→Value:=fun t=>(V16.a10 t).a11
def rd_10_12:EV→Value:=fun t=>(V16.a10 t).a12
def rd_10_13:EV→Value:=fun t=>(V16.a10 t).a13
def rd_10_14:EV→Value:=fun t=>(V16.a10 t).a14
def rd_10_15:EV→Value:=fun t=>(V16.a10 t).a15
def rd_11_0:EV→Value:=fun t=>(V16.a11 t).a0
def rd_11_1:EV→Value:=fun t=>(V16.a11 t).a1
def rd_11_2:EV→Value:=fun t=>(V16.a11 t).a2
def rd_11_3:EV→Value:=fun t=>(V16.a11 t).a3
def rd_11_4:EV→Value:=fun t=>(V16.a11 t).a4
def rd_11_5:EV→Value:=fun t=>(V16.a11 t).a5
def rd_11_6:EV→Value:=fun t=>(V16.a11 t).a6
def rd_11_7:EV→Value:=fun t=>(V16.a11 t).a7
def rd_11_8:EV→Value:=fun t=>(V16.a11 t).a8
def rd_11_9:EV→Value:=fun t=>(V16.a11 t).a9
def rd_11_10:EV→Value:=fun t=>(V16.a11 t).a10
def rd_11_11:EV→Value:=fun t=>(V16.a11 t).a11
def rd_11_12:EV→Value:=fun t=>(V16.a11 t).a12
def rd_11_13:EV→Value:=fun t=>(V16.a11 t).a13
def rd_11_14:EV→Value:=fun t=>(V16.a11 t).a14
def rd_11_15:EV→Value:=fun t=>(V16.a11 t).a15
def rd_12_0:EV→Value:=fun t=>(V16.a12 t).a0
def rd_12_1:EV→Value:=fun t=>(V16.a12 t).a1
def rd_12_2:EV→Value:=fun t=>(V16.a12 t).a2
def rd_12_3:EV→Value:=fun t=>(V16.a12 t).a3
def rd_12_4:EV→Value:=fun t=>(V16.a12 t).a4
def rd_12_5:EV→Value:=fun t=>(V16.a12 t).a5
def rd_12_6:EV→Value:=fun t=>(V16.a12 t).a6
def rd_12_7:EV→Value:=fun t=>(V16.a12 t).a7
def rd_12_8:EV→Value:=fun t=>(V16.a12 t).a8
def rd_12_9:EV→Value:=fun t=>(V16.a12 t).a9
def rd_12_10:EV→Value:=fun t=>(V16.a12 t).a10
def rd_12_11:EV→Value:=fun t=>(V16.a12 t).a11
def rd_12_12:EV→Value:=fun t=>(V16.a12 t).a12
def rd_12_13:EV→Value:=fun t=>(V16.a12 t).a13
def rd_12_14:EV→Value:=fun t=>(V16.a12 t).a14
def rd_12_15:EV→Value:=fun t=>(V16.a12 t).a15
def rd_13_0:EV→Value:=fun t=>(V16.a13 t).a0
def rd_13_1:EV→Value:=fun t=>(V16.a13 t).a1
def rd_13_2:EV→Value:=fun t=>(V16.a13 t).a2
def rd_13_3:EV→Value:=fun t=>(V16.a13 t).a3
def rd_13_4:EV→Value:=fun t=>(V16.a13 t).a4
def rd_13_5:EV→Value:=fun t=>(V16.a13 t).a5
def rd_13_6:EV→Value:=fun t=>(V16.a13 t).a6
def rd_13_7:EV→Value:=fun t=>(V16.a13 t).a7
def rd_13_8:EV→Value:=fun t=>(V16.a13 t).a8
def rd_13_9:EV→Value:=fun t=>(V16.a13 t).a9
def rd_13_10:EV→Value:=fun t=>(V16.a13 t).a10
def rd_13_11:EV→Value:=fun t=>(V16.a13 t).a11
def rd_13_12:EV→Value:=fun t=>(V16.a13 t).a12
def rd_13_13:EV→Value:=fun t=>(V16.a13 t).a13
def rd_13_14:EV→Value:=fun t=>(V16.a13 t).a14
def rd_13_15:EV→Value:=fun t=>(V16.a13 t).a15
def rd_14_0:EV→Value:=fun t=>(V16.a14 t).a0
def rd_14_1:EV→Value:=fun t=>(V16.a14 t).a1
def rd_14_2:EV→Value:=fun t=>(V16.a14 t).a2
def rd_14_3:EV→Value:=fun t=>(V16.a14 t).a3
def rd_14_4:EV→Value:=fun t=>(V16.a14 t).a4
def rd_14_5:EV→Value:=fun t=>(V16.a14 t).a5
def rd_14_6:EV→Value:=fun t=>(V16.a14 t).a6
def rd_14_7:EV→Value:=fun t=>(V16.a14 t).a7
def rd_14_8:EV→Value:=fun t=>(V16.a14 t).a8
def rd_14_9:EV→Value:=fun t=>(V16.a14 t).a9
def rd_14_10:EV→Value:=fun t=>(V16.a14 t).a10
def rd_14_11:EV→Value:=fun t=>(V16.a14 t).a11
def rd_14_12:EV→Value:=fun t=>(V16.a14 t).a12
def rd_14_13:EV→Value:=fun t=>(V16.a14 t).a13
def rd_14_14:EV→Value:=fun t=>(V16.a14 t).a14
def rd_14_15:EV→Value:=fun t=>(V16.a14 t).a15
def rd_15_0:EV→Value:=fun t=>(V16.a15 t).a0
def rd_15_1:EV→Value:=fun t=>(V16.a15 t).a1
def rd_15_2:EV→Value:=fun t=>(V16.a15 t).a2
def rd_15_3:EV→Value:=fun t=>(V16.a15 t).a3
def rd_15_4:EV→Value:=fun t=>(V16.a15 t).a4
def rd_15_5:EV→Value:=fun t=>(V16.a15 t).a5
def rd_15_6:EV→Value:=fun t=>(V16.a15 t).a6
def rd_15_7:EV→Value:=fun t=>(V16.a15 t).a7
def rd_15_8:EV→Value:=fun t=>(V16.a15 t).a8
def rd_15_9:EV→Value:=fun t=>(V16.a15 t).a9
def rd_15_10:EV→Value:=fun t=>(V16.a15 t).a10
def rd_15_11:EV→Value:=fun t=>(V16.a15 t).a11
def rd_15_12:EV→Value:=fun t=>(V16.a15 t).a12
def rd_15_13:EV→Value:=fun t=>(V16.a15 t).a13
def rd_15_14:EV→Value:=fun t=>(V16.a15 t).a14
def rd_15_15:EV→Value:=fun t=>(V16.a15 t).a15
def rdK {β:Type} (hi lo:I16) (k: (EV→Value)→β):β:=I16.rec (motive:=fun _=>β) (I16.rec (motive:=fun _=>β) (k rd_0_0) (k rd_0_1) (k rd_0_2) (k rd_0_3) (k rd_0_4) (k rd_0_5) (k rd_0_6) (k rd_0_7) (k rd_0_8) (k rd_0_9) (k rd_0_10) (k rd_0_11) (k rd_0_12) (k rd_0_13) (k rd_0_14) (k rd_0_15) lo) (I16.rec (motive:=fun _=>β) (k rd_1_0) (k rd_1_1) (k rd_1_2) (k rd_1_3) (k rd_1_4) (k rd_1_5) (k rd_1_6) (k rd_1_7) (k rd_1_8) (k rd_1_9) (k rd_1_10) (k rd_1_11) (k rd_1_12) (k rd_1_13) (k rd_1_14) (k rd_1_15) lo) (I16.rec (motive:=fun _=>β) (k rd_2_0) (k rd_2_1) (k rd_2_2) (k rd_2_3) (k rd_2_4) (k rd_2_5) (k rd_2_6) (k rd_2_7) (k rd_2_8) (k rd_2_9) (k rd_2_10) (k rd_2_11) (k rd_2_12) (k rd_2_13) (k rd_2_14) (k rd_2_15) lo) (I16.rec (motive:=fun _=>β) (k rd_3_0) (k rd_3_1) (k rd_3_2) (k rd_3_3) (k rd_3_4) (k rd_3_5) (k rd_3_6) (k rd_3_7) (k rd_3_8) (k rd_3_9) (k rd_3_10) (k rd_3_11) (k rd_3_12) (k rd_3_13) (k rd_3_14) (k rd_3_15) lo) (I16.rec (motive:=fun _=>β) (k rd_4_0) (k rd_4_1) (k rd_4_2) (k rd_4_3) (k rd_4_4) (k rd_4_5) (k rd_4_6) (k rd_4_7) (k rd_4_8) (k rd_4_9) (k rd_4_10) (k rd_4_11) (k rd_4_12) (k rd_4_13) (k rd_4_14) (k rd_4_15) lo) (I16.rec (motive:=fun _=>β) (k rd_5_0) (k rd_5_1) (k rd_5_2) (k rd_5_3) (k rd_5_4) (k rd_5_5) (k rd_5_6) (k rd_5_7) (k rd_5_8) (k rd_5_9) (k rd_5_10) (k rd_5_11) (k rd_5_12) (k rd_5_13) (k rd_5_14) (k rd_5_15) lo) (I16.rec (motive:=fun _=>β) (k rd_6_0) (k rd_6_1) (k rd_6_2) (k rd_6_3) (k rd_6_4) (k rd_6_5) (k rd_6_6) (k rd_6_7) (k rd_6_8) (k rd_6_9) (k rd_6_10) (k rd_6_11) (k rd_6_12) (k rd_6_13) (k rd_6_14) (k rd_6_15) lo) (I16.rec (motive:=fun _=>β) (k rd_7_0) (k rd_7_1) (k rd_7_2) (k rd_7_3) (k rd_7_4) (k rd_7_5) (k rd_7_6) (k rd_7_7) (k rd_7_8) (k rd_7_9) (k rd_7_10) (k rd_7_11) (k rd_7_12) (k rd_7_13) (k rd_7_14) (k rd_7_15) lo) (I16.rec (motive:=fun _=>β) (k rd_8_0) (k rd_8_1) (k rd_8_2) (k rd_8_3) (k rd_8_4) (k rd_8_5) (k rd_8_6) (k rd_8_7) (k rd_8_8) (k rd_8_9) (k rd_8_10) (k rd_8_11) (k rd_8_12) (k rd_8_13) (k rd_8_14) (k rd_8_15) lo) (I16.rec (motive:=fun _=>β) (k rd_9_0) (k rd_9_1) (k rd_9_2) (k rd_9_3) (k rd_9_4) (k rd_9_5) (k rd_9_6) (k rd_9_7) (k rd_9_8) (k rd_9_9) (k rd_9_10) (k rd_9_11) (k rd_9_12) (k rd_9_13) (k rd_9_14) (k rd_9_15) lo) (I16.rec (motive:=fun _=>β) (k rd_10_0) (k rd_10_1) (k rd_10_2) (k rd_10_3) (k rd_10_4) (k rd_10_5) (k rd_10_6) (k rd_10_7) (k rd_10_8) (k rd_10_9) (k rd_10_10) (k rd_10_11) (k rd_10_12) (k rd_10_13) (k rd_10_14) (k rd_10_15) lo) (I16.rec (motive:=fun _=>β) (k rd_11_0) (k rd_11_1) (k rd_11_2) (k rd_11_3) (k rd_11_4) (k rd_11_5) (k rd_11_6) (k rd_11_7) (k rd_11_8) (k rd_11_9) (k rd_11_10) (k rd_11_11) (k rd_11_12) (k rd_11_13) (k rd_11_14) (k rd_11_15) lo) (I16.rec (motive:=fun _=>β) (k rd_12_0) (k rd_12_1) (k rd_12_2) (k rd_12_3) (k rd_12_4) (k rd_12_5) (k rd_12_6) (k rd_12_7) (k rd_12_8) (k rd_12_9) (k rd_12_10) (k rd_12_11) (k rd_12_12) (k rd_12_13) (k rd_12_14) (k rd_12_15) lo) (I16.rec (motive:=fun _=>β) (k rd_13_0) (k rd_13_1) (k rd_13_2) (k rd_13_3) (k rd_13_4) (k rd_13_5) (k rd_13_6) (k rd_13_7) (k rd_13_8) (k rd_13_9) (k rd_13_10) (k rd_13_11) (k rd_13_12) (k rd_13_13) (k rd_13_14) (k rd_13_15) lo) (I16.rec (motive:=fun _=>β) (k rd_14_0) (k rd_14_1) (k rd_14_2) (k rd_14_3) (k rd_14_4) (k rd_14_5) (k rd_14_6) (k rd_14_7) (k rd_14_8) (k rd_14_9) (k rd_14_10) (k rd_14_11) (k rd_14_12) (k rd_14_13) (k rd_14_14) (k rd_14_15) lo) (I16.rec (motive:=fun _=>β) (k rd_15_0) (k rd_15_1) (k rd_15_2) (k rd_15_3) (k rd_15_4) (k rd_15_5) (k rd_15_6) (k rd_15_7) (k rd_15_8) (k rd_15_9) (k rd_15_10) (k rd_15_11) (k rd_15_12) (k rd_15_13) (k rd_15_14) (k rd_15_15) lo) hi
theorem rdK_eq {β:Type} (hi lo:I16) (k: (EV→Value)→β):rdK hi lo k=k (wget hi lo):=by cases hi<;>cases lo<;>rfl
inductive WOp where
 |t (g:EV→Value)
 |c (v:Value)
def fget:WOp→EV→Value:=WOp.rec (motive:=fun _=>EV→Value) (fun g=>g) (fun v _=>v)
def forceI {β:Type}:I16→(I16→β)→β:=I16.rec (motive:=fun _=>(I16→β)→β) (fun k=>k .i0) (fun k=>k .i1) (fun k=>k .i2) (fun k=>k .i3) (fun k=>k .i4) (fun k=>k .i5) (fun k=>k .i6) (fun k=>k .i7) (fun k=>k .i8) (fun k=>k .i9) (fun k=>k .i10) (fun k=>k .i11) (fun k=>k .i12) (fun k=>k .i13) (fun k=>k .i14) (fun k=>k .i15)
theorem forceI_eq {β:Type} (i:I16) (k:I16→β):forceI i k=k i:=by cases i<;>rfl
def cmpW (C:Cfg):Operand→Option WOp
 | .tmp k=>if k<256 then rdK (toI (k/16)) (toI (k%16)) fun g=>some (.t g) else none
 | .const v=>if flat v then some (.c v) else none
 | .global g=>if g<C.G then some (.c (.pointer (some ⟨g,0,none⟩))) else none
 | .func f=>some (.c (.func (.func f) #[] #[]))
theorem cmpW_ok {C:Cfg} {x:Operand} {y:WOp} (h:cmpW C x=some y) (t:EV):evW C t x=some (fget y t):=by
 cases x with
 |tmp k=>
  simp only [cmpW] at h
  split at h
  ·rename_i hk
   rw [rdK_eq] at h
   cases h
   simp only [evW,if_pos hk]
   rfl
  ·cases h
 |const v=>
  simp only [cmpW] at h
  split at h
  ·rename_i hf;cases h;simp only [evW,if_pos hf];rfl
  ·cases h
 |global g=>
  simp only [cmpW] at h
  split at h
  ·rename_i hg;cases h;simp only [evW,if_pos hg];rfl
  ·cases h
 |func f=>cases h;rfl
inductive WD where
 |no
 |at_ (hi lo:I16)
def cmpWD:Option Tmp→Option WD
 |none=>some .no
 |some k=>if k<256 then forceI (toI (k/16)) fun hi=>forceI (toI (k%16)) fun lo=>some (.at_ hi lo) else none
def dputW:WD→Value→EV→EV:=WD.rec (motive:=fun _=>Value→EV→EV) (fun _ t=>t) (fun hi lo=>wput hi lo)
theorem cmpWD_ok {d:Option Tmp} {p:WD} (h:cmpWD d=some p) {t:EV} {B:T Value} (hr:envR t B) (v:Value):envR (dputW p v t) (fPut d v B):=by
 cases d with
 |none=>cases h;exact hr
 |some k=>
  simp only [cmpWD] at h
  split at h
  ·rename_i hk
   rw [forceI_eq,forceI_eq] at h
   cases h
   exact envR_put hr hk v
  ·cases h
end
end Go.Proofs.YtdcioacjhpnihaaGreatDoor
namespace Go.Proofs.YtdcioacjhpnihaaGreatDoor
open Go
noncomputable section
inductive FOp where
 |t (p:Pa)
 |c (v:Value)
def evF:FOp→T Value→Option Value:=FOp.rec (motive:=fun _=>T Value→Option Value) (fun p=>pget p) (fun v _=>some v)
def cmpF (C:Cfg):Operand→Option FOp
 | .tmp k=>if k<100000 then some (.t (pathOf k)) else none
 | .const v=>if flat v then some (.c v) else none
 | .global g=>if g<C.G then some (.c (.pointer (some ⟨g,0,none⟩))) else none
 | .func f=>some (.c (.func (.func f) #[] #[]))
def evFs:List FOp→T Value→Option (List Value):=List.rec (motive:=fun _=>T Value→Option (List Value)) (fun _=>some []) (fun x _ ih t=>Option.rec (motive:=fun _=>Option (List Value)) none (fun v=>Option.rec (motive:=fun _=>Option (List Value)) none (fun l=>some (v::l)) (ih t)) (evF x t))
def cmpFs (C:Cfg):List Operand→Option (List FOp)
 | [] =>some []
 |x::l=>match cmpF C x,cmpFs C l with
  |some y,some r=>some (y::r)
  |_,_=>none
inductive CI where
 |p1 (f:Value→Option Value) (a:FOp)
 |p2 (f:Value→Value→Option Value) (a b:FOp)
 |m1 (f:AS→Value→Option Value) (a:FOp)
 |st (f:AS→Value→Value→Option AS) (a b:FOp)
 |pk (c x y:FOp)
 |cs (f:FuncId) (args:List FOp)
 |no
abbrev EX:=Env→FCl→T Value→AS→Option (Value × AS)
def xP1 (f:Value→Option Value) (a:FOp):EX:=fun _ _ t s=>Option.rec (motive:=fun _=>Option (Value × AS)) none (fun u=>Option.rec (motive:=fun _=>Option (Value × AS)) none (fun v=>some (v,s)) (f u)) (evF a t)
def xP2 (f:Value→Value→Option Value) (a b:FOp):EX:=fun _ _ t s=>Option.rec (motive:=fun _=>Option (Value × AS)) none (fun u=>Option.rec (motive:=fun _=>Option (Value × AS)) none (fun w=>Option.rec (motive:=fun _=>Option (Value × AS)) none (fun v=>some (v,s)) (f u w)) (evF b t)) (evF a t)
def xM1 (f:AS→Value→Option Value) (a:FOp):EX:=fun _ _ t s=>Option.rec (motive:=fun _=>Option (Value × AS)) none (fun u=>Option.rec (motive:=fun _=>Option (Value × AS)) none (fun v=>some (v,s)) (f s u)) (evF a t)
def xSt (f:AS→Value→Value→Option AS) (a b:FOp):EX:=fun _ _ t s=>Option.rec (motive:=fun _=>Option (Value × AS)) none (fun u=>Option.rec (motive:=fun _=>Option (Value × AS)) none (fun w=>Option.rec (motive:=fun _=>Option (Value × AS)) none (fun s'=>some (undef,s')) (f s u w)) (evF b t)) (evF a t)
def xPk (c x y:FOp):EX:=fun _ _ t s=>Option.rec (motive:=fun _=>Option (Value × AS)) none (fun u=>Option.rec (motive:=fun _=>Option (Value × AS)) none (fun b=>Option.rec (motive:=fun _=>Option (Value × AS)) none (fun v=>some (v,s)) (evF (Bool.rec (motive:=fun _=>FOp) y x b) t)) (xBool u)) (evF c t)
def xCs (f:FuncId) (args:List FOp):EX:=fun E cl t s=>Option.rec (motive:=fun _=>Option (Value × AS)) none (fun vs=>Option.rec (motive:=fun _=>Option (Value × AS)) (cl f vs s) some (Env.rec (motive:=fun _=>FCl) (fun _ _ _ _ ext _=>ext) E f vs s)) (evFs args t)
def ex:CI→EX:=CI.rec (motive:=fun _=>EX) xP1 xP2 xM1 xSt xPk xCs (fun _ _ _ _=>none)
theorem orec {α β:Type} {o:Option α} {f:α→Option β} {r:β} (h: (Option.rec (motive:=fun _=>Option β) none f o:Option β)=some r): ∃a,o=some a∧f a=some r:=by
 cases o with
 |none=>cases h
 |some a=>exact ⟨a,rfl,h⟩
def cP1 (C:Cfg) (f:Value→Option Value) (x:Operand):CI:=match cmpF C x with
 |some a=> .p1 f a
 |none=> .no
def cP2 (C:Cfg) (f:Value→Value→Option Value) (x y:Operand):CI:=match cmpF C x,cmpF C y with
 |some a,some b=> .p2 f a b
 |_,_=> .no
def cM1 (C:Cfg) (f:AS→Value→Option Value) (x:Operand):CI:=match cmpF C x with
 |some a=> .m1 f a
 |none=> .no
def cSt (C:Cfg) (f:AS→Value→Value→Option AS) (x y:Operand):CI:=match cmpF C x,cmpF C y with
 |some a,some b=> .st f a b
 |_,_=> .no
section
variable {E:Env} {o:Oper}
end
def klim:IntKind→Nat:=IntKind.rec (motive:=fun _=>Nat) 128 32768 2147483648 9223372036854775808 256 65536 4294967296 18446744073709551616
def kidx:IntKind→Nat:=IntKind.rec (motive:=fun _=>Nat) 0 1 2 3 4 5 6 7
theorem kidx_inj {k j:IntKind} (h:Nat.beq (kidx k) (kidx j)=true):k=j:=by cases k<;>cases j<;>first |rfl | (cases h;done)
theorem wrap_nat {k:IntKind} {n:Nat} (h:n<klim k):k.wrap (Int.ofNat n)=Int.ofNat n:=by
 have h0: (Int.ofNat n:Int)=(n:Int):=rfl
 cases k<;>simp only [klim] at h<;> (unfold IntKind.wrap;rw [h0];simp [IntKind.bits,IntKind.signed];omega)
def mkI (k:IntKind) (n:Nat):Option Value:=Bool.rec (motive:=fun _=>Option Value) none (some (.int k (.ofNat n))) (Nat.ble (Nat.succ n) (klim k))
theorem mkI_ok {k:IntKind} {n:Nat} {v:Value} (h:mkI k n=some v):v= .int k (.ofNat n)∧n<klim k:=by
 unfold mkI at h
 cases hb:Nat.ble (Nat.succ n) (klim k) with
 |false=>rw [hb] at h;cases h
 |true=>rw [hb] at h;cases h;exact ⟨rfl,Nat.le_of_ble_eq_true hb⟩
def ab (f:IntKind→Nat→Nat→Option Value) (u w:Value):Option Value:=IV.rec (motive:=fun _=>Option Value) none (fun k m=>IV.rec (motive:=fun _=>Option Value) none (fun j n=>Bool.rec (motive:=fun _=>Option Value) none (f k m n) (Nat.beq (kidx k) (kidx j))) (xInt w)) (xInt u)
def nAdd (k:IntKind) (m n:Nat):Option Value:=mkI k (Nat.add m n)
def nSub (k:IntKind) (m n:Nat):Option Value:=Bool.rec (motive:=fun _=>Option Value) none (mkI k (Nat.sub m n)) (Nat.ble n m)
def nMul (k:IntKind) (m n:Nat):Option Value:=mkI k (Nat.mul m n)
def nEq (_:IntKind) (m n:Nat):Option Value:=some (.bool (Nat.beq m n))
def nNe (_:IntKind) (m n:Nat):Option Value:=some (.bool (Bool.rec (motive:=fun _=>Bool) true false (Nat.beq m n)))
def nLt (_:IntKind) (m n:Nat):Option Value:=some (.bool (Nat.ble (Nat.succ m) n))
def nLe (_:IntKind) (m n:Nat):Option Value:=some (.bool (Nat.ble m n))
def nGt (_:IntKind) (m n:Nat):Option Value:=some (.bool (Nat.ble (Nat.succ n) m))
def nGe (_:IntKind) (m n:Nat):Option Value:=some (.bool (Nat.ble n m))
theorem beqB (m n:Nat):Nat.beq m n=decide (m=n):=by
 cases h:Nat.beq m n with
 |false=>exact (decide_eq_false fun e=>by subst e;rw [Nat.beq_refl] at h;cases h).symm
 |true=>exact (decide_eq_true (Nat.eq_of_beq_eq_true h)).symm
theorem bleB (m n:Nat):Nat.ble m n=decide (m≤n):=by
 cases h:Nat.ble m n with
 |false=>exact (decide_eq_false fun e=>by rw [Nat.ble_eq_true_of_le e] at h;cases h).symm
 |true=>exact (decide_eq_true (Nat.le_of_ble_eq_true h)).symm
theorem nEq_ok (k:IntKind) (m n:Nat) (v:Value) (h:nEq k m n=some v):fbin .eql (.int k (.ofNat m)) (.int k (.ofNat n))=some v:=by
 cases h
 simp only [fbin,if_pos,beqB]
 congr 2
 by_cases hq:m=n
 ·subst hq;simp
 ·rw [decide_eq_false hq];simp;omega
theorem nNe_ok (k:IntKind) (m n:Nat) (v:Value) (h:nNe k m n=some v):fbin .neq (.int k (.ofNat m)) (.int k (.ofNat n))=some v:=by
 cases h
 simp only [fbin,if_pos,beqB]
 congr 2
 by_cases hq:m=n
 ·subst hq;simp
 ·rw [decide_eq_false hq];simp;omega
theorem nLt_ok (k:IntKind) (m n:Nat) (v:Value) (h:nLt k m n=some v):fbin .lss (.int k (.ofNat m)) (.int k (.ofNat n))=some v:=by
 cases h
 simp only [fbin,if_pos,bleB]
 congr 2
 rw [decide_eq_decide]
 show (m:Int) <n↔_
 omega
theorem nLe_ok (k:IntKind) (m n:Nat) (v:Value) (h:nLe k m n=some v):fbin .leq (.int k (.ofNat m)) (.int k (.ofNat n))=some v:=by
 cases h
 simp only [fbin,if_pos,bleB]
 congr 2
 rw [decide_eq_decide]
 show (m:Int)≤n↔_
 omega
theorem nGt_ok (k:IntKind) (m n:Nat) (v:Value) (h:nGt k m n=some v):fbin .gtr (.int k (.ofNat m)) (.int k (.ofNat n))=some v:=by
 cases h
 simp only [fbin,if_pos,bleB]
 congr 2
 rw [decide_eq_decide]
 show (m:Int)>n↔_
 omega
theorem nGe_ok (k:IntKind) (m n:Nat) (v:Value) (h:nGe k m n=some v):fbin .geq (.int k (.ofNat m)) (.int k (.ofNat n))=some v:=by
 cases h
 simp only [fbin,if_pos,bleB]
 congr 2
 rw [decide_eq_decide]
 show (m:Int)≥n↔_
 omega
def cBin (op:BinOp):Option (IntKind→Nat→Nat→Option Value):=match op with
 | .add=>some nAdd
 | .sub=>some nSub
 | .mul=>some nMul
 | .eql=>some nEq
 | .neq=>some nNe
 | .lss=>some nLt
 | .leq=>some nLe
 | .gtr=>some nGt
 | .geq=>some nGe
 |_=>none
end
end Go.Proofs.YtdcioacjhpnihaaGreatDoor
namespace Go.Proofs.YtdcioacjhpnihaaGreatDoor
open Go
noncomputable section
def hget (s:AS) (k:Nat):Option Obj:=AS.rec (motive:=fun _=>Option Obj) (fun h _=>T.get h k) s
theorem hget_eq (s:AS) (k:Nat):hget s k=s.h.get k:=by cases s;rfl
def hput (s:AS) (k:Nat) (o:Obj):Option AS:=AS.rec (motive:=fun _=>Option AS) (fun h n=>Bool.rec (motive:=fun _=>Option AS) none (some ⟨T.put 100000000 h k (some o),n⟩) (Nat.ble (Nat.succ k) 100000000)) s
theorem hput_ok {s s':AS} {k:Nat} {o:Obj} (h:hput s k o=some s'):aput s k (some o)=some s':=by
 cases s with
 |mk hh n=>
  have h': (Bool.rec (motive:=fun _=>Option AS) none (some ⟨T.put 100000000 hh k (some o),n⟩) (Nat.ble (Nat.succ k) 100000000):Option AS)=some s':=h
  cases hb:Nat.ble (Nat.succ k) 100000000 with
  |false=>rw [hb] at h';cases h'
  |true=>
   rw [hb] at h'
   cases h'
   unfold aput
   exact if_pos (Nat.le_of_ble_eq_true hb)
def atC {β:Type} (s:AS) (p:Value) (f:List Value→TypeId→Nat→Nat→Option β):Option β:=PV.rec (motive:=fun _=>Option β) none (fun k o=>Option.rec (motive:=fun _=>Option β) none (fun ob=>Option.rec (motive:=fun _=>Option β) none (fun x=>Prod.rec (motive:=fun _=>Option β) (fun l e=>f l e k o) x) (xCells ob)) (hget s k)) (xPtr p)
theorem atC_ok {β:Type} {s:AS} {p:Value} {f:List Value→TypeId→Nat→Nat→Option β} {r:β} (h:atC s p f=some r): ∃k o c e fr,p= .pointer (some ⟨k,o,none⟩)∧s.h.get k=some (.cells c e fr)∧f c.toList e k o=some r:=by
 unfold atC at h
 cases h1:xPtr p with
 |no=>rw [h1] at h;cases h
 |at_ k o=>
  rw [h1] at h
  obtain ⟨ob,h2,h3⟩:=orec h
  obtain ⟨⟨l,e⟩,h4,h5⟩:=orec h3
  obtain ⟨c,fr,rfl,rfl⟩:=xCells_ok h4
  exact ⟨k,o,c,e,fr,xPtr_ok h1,(hget_eq s k).symm.trans h2,h5⟩
def lod1 (s:AS) (p:Value):Option Value:=atC s p fun l _ _ o=>lget l o
theorem lod1_ok {C:Cfg} {s:AS} {t:TypeId} {p v:Value} {d:TypeDesc} (hd:C.und t=some d) (ha:aggD d=false) (h:lod1 s p=some v):aload C s t p=some v:=by
 obtain ⟨k,o,c,e,fr,rfl,h1,h2⟩:=atC_ok h
 simp only [aload,h1,hd,ha]
 rw [lget_eq] at h2
 simpa using h2
def lodN (n:Nat) (s:AS) (p:Value):Option Value:=atC s p fun l _ _ o=>Option.rec (motive:=fun _=>Option Value) none (fun q=>Option.rec (motive:=fun _=>Option Value) none (fun r=>some (.agg ⟨r⟩)) (ltake q n)) (ldrop l o)
theorem lodN_ok {C:Cfg} {s:AS} {t:TypeId} {p v:Value} {d:TypeDesc} {n:Nat} (hd:C.und t=some d) (ha:aggD d=true) (hn:C.size t=some n) (h:lodN n s p=some v):aload C s t p=some v:=by
 obtain ⟨k,o,c,e,fr,rfl,h1,h2⟩:=atC_ok h
 obtain ⟨q,h3,h4⟩:=orec h2
 obtain ⟨r,h5,h6⟩:=orec h4
 cases h6
 obtain ⟨a1,rfl⟩:=ldrop_eq _ _ h3
 obtain ⟨a2,rfl⟩:=ltake_eq _ _ h5
 simp only [aload,h1,hd,ha,hn,if_true]
 rw [if_pos (by simp at a1 a2;omega)]
def st1 (s:AS) (p v:Value):Option AS:=atC s p fun l e k o=>Option.rec (motive:=fun _=>Option AS) none (fun u=>Option.rec (motive:=fun _=>Option AS) none (fun q=>hput s k (.cells ⟨q⟩ e (0,0))) (lset u l o)) (xOne v)
theorem st1_ok {C:Cfg} {s s':AS} {t:TypeId} {p v:Value} (hn:C.size t=some 1) (h:st1 s p v=some s'):astore C s t p v=some s':=by
 obtain ⟨k,o,c,e,fr,rfl,h1,h2⟩:=atC_ok h
 obtain ⟨u,h3,h4⟩:=orec h2
 obtain ⟨q,h5,h6⟩:=orec h4
 obtain ⟨rfl,b1,b2⟩:=xOne_ok h3
 obtain ⟨a1,rfl⟩:=lset_eq _ _ _ h5
 simp only [astore,h1,hn,b1]
 rw [if_pos ⟨rfl,by simp at a1;omega,by simp [b2]⟩]
 exact hput_ok h6
def oneAll:List Value→Bool:=List.rec (motive:=fun _=>Bool) true (fun x _ ih=>Option.rec (motive:=fun _=>Bool) false (fun _=>ih) (xOne x))
theorem oneAll_ok: ∀ {l:List Value},oneAll l=true→l.all (·.oneCell')=true
 | [],_=>rfl
 |x::l,h=>by
  have h': (Option.rec (motive:=fun _=>Bool) false (fun _=>oneAll l) (xOne x):Bool)=true:=h
  cases hx:xOne x with
  |none=>rw [hx] at h';cases h'
  |some u=>
   rw [hx] at h'
   rw [List.all_cons,(xOne_ok hx).2.2,oneAll_ok h']
   rfl
def lappN (new b:List Value):List Value:=List.rec (motive:=fun _=>List Value) new (fun _ _ _=>List.rec (motive:=fun _=>List Value) b (fun x _ ih=>x::ih) new) b
def lputs (new:List Value) (l:List Value) (o:Nat):Option (List Value):=Option.rec (motive:=fun _=>Option (List Value)) none (fun a=>Option.rec (motive:=fun _=>Option (List Value)) none (fun b=>some (List.rec (motive:=fun _=>List Value) (lappN new b) (fun x _ ih=>x::ih) a)) (ldrop l (Nat.add o (llen new)))) (ltake l o)
theorem lapp (l r:List Value): (List.rec (motive:=fun _=>List Value) r (fun x _ ih=>x::ih) l:List Value)=l++r:=by
 induction l with
 |nil=>rfl
 |cons x l ih=>exact congrArg (x:: ·) ih
theorem lappN_eq (new b:List Value):lappN new b=new++b:=by
 cases b with
 |nil=>exact (List.append_nil new).symm
 |cons x b=>exact lapp new (x::b)
def stN (n:Nat) (s:AS) (p v:Value):Option AS:=atC s p fun l e k o=>Option.rec (motive:=fun _=>Option AS) none (fun u=>Bool.rec (motive:=fun _=>Option AS) none (Bool.rec (motive:=fun _=>Option AS) none (Option.rec (motive:=fun _=>Option AS) none (fun q=>hput s k (.cells ⟨q⟩ e (0,0))) (lputs u l o)) (oneAll u)) (Nat.beq (llen u) n)) (xAgg v)
theorem stN_ok {C:Cfg} {s s':AS} {t:TypeId} {p v:Value} {n:Nat} (hn:C.size t=some n) (h:stN n s p v=some s'):astore C s t p v=some s':=by
 obtain ⟨k,o,c,e,fr,rfl,h1,h2⟩:=atC_ok h
 obtain ⟨u,h3,h4⟩:=orec h2
 obtain ⟨cs,rfl,rfl⟩:=xAgg_ok h3
 cases hb:Nat.beq (llen cs.toList) n with
 |false=>simp only [hb] at h4;cases h4
 |true=>
  simp only [hb] at h4
  have hlen:cs.size=n:=by have:=Nat.eq_of_beq_eq_true hb;rw [llen_eq] at this;simpa using this
  cases ho:oneAll cs.toList with
  |false=>simp only [ho] at h4;cases h4
  |true=>
   simp only [ho] at h4
   obtain ⟨q,h5,h6⟩:=orec h4
   obtain ⟨a,h7,h8⟩:=orec h5
   obtain ⟨b,h9,h10⟩:=orec h8
   obtain ⟨_,rfl⟩:=ltake_eq _ _ h7
   obtain ⟨b1,rfl⟩:=ldrop_eq _ _ h9
   cases h10
   have hcv: (Value.agg cs).cells=cs:=rfl
   simp only [astore,h1,hn,hcv]
   rw [if_pos ⟨hlen,by rw [show Nat.add o (llen cs.toList)=o+llen cs.toList from rfl,llen_eq] at b1;simp at b1;omega,oneAll_ok ho⟩]
   rw [←hput_ok h6]
   congr 3
   rw [lapp,lappN_eq,show Nat.add o (llen cs.toList)=o+llen cs.toList from rfl,llen_eq]
   simp
def fldA (off:Nat) (p:Value):Option Value:=PV.rec (motive:=fun _=>Option Value) none (fun k o=>some (.pointer (some ⟨k,Nat.add o off,none⟩))) (xPtr p)
theorem fldA_ok {C:Cfg} {t:TypeId} {fs:Array Field} {f n:Nat} {fd:Field} {p v:Value} (h1:C.und t=some (.struct fs)) (h2:fs[f]? =some fd) (h3:C.size fd.type=some n) (h4:n≠0) (h:fldA fd.offset p=some v):afieldA C t p f=some v:=by
 unfold fldA at h
 cases hp:xPtr p with
 |no=>rw [hp] at h;cases h
 |at_ k o=>
  rw [hp] at h
  cases h
  rw [xPtr_ok hp]
  simp only [afieldA,h1,h2,h3,if_neg h4]
  rfl
def idxS (z:Nat) (p i:Value):Option Value:=SV.rec (motive:=fun _=>Option Value) none (fun k o n=>IV.rec (motive:=fun _=>Option Value) none (fun _ m=>Bool.rec (motive:=fun _=>Option Value) none (some (.pointer (some ⟨k,Nat.add o (Nat.mul m z),none⟩))) (Nat.ble (Nat.succ m) n)) (xInt i)) (xSl p)
theorem idxS_ok {C:Cfg} {t e:TypeId} {z:Nat} {p i v:Value} (h1:C.und t=some (.slice e)) (h2:C.size e=some z) (h:idxS z p i=some v):aindexA C t p i=some v:=by
 unfold idxS at h
 cases hp:xSl p with
 |no=>rw [hp] at h;cases h
 |at_ k o n=>
  rw [hp] at h
  cases hi:xInt i with
  |no=>simp only [hi] at h;cases h
  |nat kd m=>
   simp only [hi] at h
   cases hb:Nat.ble (Nat.succ m) n with
   |false=>simp only [hb] at h;cases h
   |true=>
    simp only [hb] at h
    cases h
    obtain ⟨sp,c,rfl⟩:=xSl_ok hp
    rw [xInt_ok hi]
    have:=Nat.le_of_ble_eq_true hb
    simp only [aindexA,h1,h2]
    rw [if_pos ⟨Int.natCast_nonneg m,by show (m:Int) <n;omega⟩]
    rfl
def idxA (n z:Nat) (p i:Value):Option Value:=PV.rec (motive:=fun _=>Option Value) none (fun k o=>IV.rec (motive:=fun _=>Option Value) none (fun _ m=>Bool.rec (motive:=fun _=>Option Value) none (some (.pointer (some ⟨k,Nat.add o (Nat.mul m z),none⟩))) (Nat.ble (Nat.succ m) n)) (xInt i)) (xPtr p)
theorem idxA_ok {C:Cfg} {t e:TypeId} {n z:Nat} {p i v:Value} (h1:C.und t=some (.array n e)) (h2:C.size e=some z) (h:idxA n z p i=some v):aindexA C t p i=some v:=by
 unfold idxA at h
 cases hp:xPtr p with
 |no=>rw [hp] at h;cases h
 |at_ k o=>
  rw [hp] at h
  cases hi:xInt i with
  |no=>simp only [hi] at h;cases h
  |nat kd m=>
   simp only [hi] at h
   cases hb:Nat.ble (Nat.succ m) n with
   |false=>simp only [hb] at h;cases h
   |true=>
    simp only [hb] at h
    cases h
    rw [xPtr_ok hp,xInt_ok hi]
    have:=Nat.le_of_ble_eq_true hb
    simp only [aindexA,h1,h2]
    rw [if_pos ⟨Int.natCast_nonneg m,by show (m:Int) <n;omega⟩]
    rfl
def fld (off:Nat) (x:Value):Option Value:=Option.rec (motive:=fun _=>Option Value) none (fun l=>lget l off) (xAgg x)
theorem fld_ok {C:Cfg} {t:TypeId} {fs:Array Field} {f n:Nat} {fd:Field} {d:TypeDesc} {x v:Value} (h1:C.und t=some (.struct fs)) (h2:fs[f]? =some fd) (h3:C.und fd.type=some d) (h4:C.size fd.type=some n) (h5:aggD d=false) (h:fld fd.offset x=some v):afield C t x f=some v:=by
 obtain ⟨l,h6,h7⟩:=orec h
 obtain ⟨c,rfl,rfl⟩:=xAgg_ok h6
 rw [lget_eq] at h7
 simp only [afield,h1,h2,apartV,h3,h4,h5]
 simpa using h7
def xtr (i:Nat) (x:Value):Option Value:=Option.rec (motive:=fun _=>Option Value) none (fun l=>lget l i) (xTup x)
theorem xtr_ok {i:Nat} {x v:Value} (h:xtr i x=some v): ∃c,x= .tuple c∧c[i]? =some v:=by
 obtain ⟨l,h6,h7⟩:=orec h
 obtain ⟨c,rfl,rfl⟩:=xTup_ok h6
 rw [lget_eq] at h7
 exact ⟨c,rfl,by simpa using h7⟩
def nchk (p:Value):Option Value:=PV.rec (motive:=fun _=>Option Value) none (fun _ _=>some p) (xPtr p)
theorem nchk_ok {p v:Value} (h:nchk p=some v): (if anilCheck p then some p else none)=some v:=by
 unfold nchk at h
 cases hp:xPtr p with
 |no=>rw [hp] at h;cases h
 |at_ k o=>
  rw [hp] at h
  cases h
  rw [xPtr_ok hp]
  rfl
def lenS (x:Value):Option Value:=SV.rec (motive:=fun _=>Option Value) none (fun _ _ n=>some (.int .i64 (.ofNat n))) (xSl x)
theorem lenS_ok {C:Cfg} {t e:TypeId} {x v:Value} (h1:C.und t=some (.slice e)) (h:lenS x=some v):alen C t x=some v:=by
 unfold lenS at h
 cases hp:xSl x with
 |no=>rw [hp] at h;cases h
 |at_ k o n=>
  rw [hp] at h
  cases h
  obtain ⟨sp,c,rfl⟩:=xSl_ok hp
  simp only [alen,h1]
  rfl
def lenStr (x:Value):Option Value:=Option.rec (motive:=fun _=>Option Value) none (fun l=>some (.int .i64 (.ofNat (llen l)))) (xStr x)
theorem lenStr_ok {C:Cfg} {t:TypeId} {x v:Value} (h1:C.und t=some .string) (h:lenStr x=some v):alen C t x=some v:=by
 obtain ⟨l,h2,h3⟩:=orec h
 cases h3
 obtain ⟨s,rfl,rfl⟩:=xStr_ok h2
 simp only [alen,h1,llen_eq]
 rfl
end
end Go.Proofs.YtdcioacjhpnihaaGreatDoor
namespace Go.Proofs.YtdcioacjhpnihaaGreatDoor
open Go
noncomputable section
theorem eFlat_of {P:Program} {s:AS} {ev:Operand→Option Value} {o:Oper} {v:Value} (hop: ∀x∈o.op.operands, ∃u,ev x=some u∧flat u=true) (h:semP P (execOp (fun x=>(ev x).getD undef) o)=some (.value v)) (hf:flat v=true):eFlat none P s ev o=some (v,s):=by
 have hall: (o.op.operands.toList.all fun x=>match ev x with |some v=>flat v |none=>false)=true:=List.all_eq_true.2 fun x hx=>by
  obtain ⟨u,h1,h2⟩:=hop x (Array.mem_toList_iff.1 hx)
  rw [h1]
  exact h2
 have e:fflat P ev o=some v:=by
  unfold fflat
  refine (if_pos hall).trans ?_
  rw [h]
  simp only [hf,if_true]
 simp only [eFlat,e]
theorem semP_bind {P:Program} {α β:Type} {m:Sem α} {f:α→Sem β} {a:α} (h:semP P m=some a):semP P (m>>=f)=semP P (f a):=by
 induction m with
 |pure a=>cases h;rfl
 |program k ih=>exact ih P h
 |_=>cases h
theorem semP_und {C:Cfg} {P:Program} (hC:C.ok P) {t:TypeId} {d:TypeDesc} (h:C.und t=some d):semP P (underlying t)=some d:=by
 show semP P (match P.underlying t with |some d=>pure d |none=>stuck "no such type")=_
 rw [Cfg.und_ok hC h]
 rfl
def bNot (u:Value):Option Value:=Option.rec (motive:=fun _=>Option Value) none (fun b=>some (.bool (Bool.rec (motive:=fun _=>Bool) true false b))) (xBool u)
def cvI (k:IntKind) (u:Value):Option Value:=IV.rec (motive:=fun _=>Option Value) none (fun _ m=>mkI k m) (xInt u)
def idxStr (u i:Value):Option Value:=Option.rec (motive:=fun _=>Option Value) none (fun l=>IV.rec (motive:=fun _=>Option Value) none (fun _ m=>Option.rec (motive:=fun _=>Option Value) none (fun b=>some (.int .u8 (.ofNat (UInt8.toNat b)))) (lget l m)) (xInt i)) (xStr u)
section
variable {E:Env} {dst:Option Tmp} {ty:TypeId} {pos:String} {aft:Array Edge} {gd:Option (Nat × Bool)}
end
def cmpO (C:Cfg) (o:Oper):CI:=match o.op with
 | .move x=>cP1 C some x
 | .assign x=>cP1 C some x
 | .pick c x y=>match cmpF C c,cmpF C x,cmpF C y with
  |some a,some b,some d=> .pk a b d
  |_,_,_=> .no
 | .load t x=>match C.und t with
  |some d=>if aggD d then (match C.size t with
   |some n=>cM1 C (lodN n) x
   |none=> .no) else cM1 C lod1 x
  |none=> .no
 | .store t x y=>match C.size t with
  |some n=>if n=1 then cSt C st1 x y else cSt C (stN n) x y
  |none=> .no
 | .nilCheck x=>cP1 C nchk x
 | .binOp op _ x y _=>match cBin op with
  |some f=>cP2 C (ab f) x y
  |none=> .no
 | .unOp .not _ x=>cP1 C bNot x
 | .convert src d x=>if scalT d=true then (match C.und src,C.und d with
  |some (.int _),some (.int k)=>cP1 C (cvI k) x
  |_,_=> .no) else .no
 | .fieldAddr t x f=>match C.und t with
  |some (.struct fs)=>match fs[f]? with
   |some fd=>match C.size fd.type with
    |some n=>if n=0 then .no else cP1 C (fldA fd.offset) x
    |none=> .no
   |none=> .no
  |_=> .no
 | .field t x f=>match C.und t with
  |some (.struct fs)=>match fs[f]? with
   |some fd=>match C.und fd.type,C.size fd.type with
    |some d,some _=>if aggD d then .no else cP1 C (fld fd.offset) x
    |_,_=> .no
   |none=> .no
  |_=> .no
 | .indexAddr t x i=>match C.und t with
  |some (.slice e)=>match C.size e with
   |some z=>cP2 C (idxS z) x i
   |none=> .no
  |some (.array n e)=>match C.size e with
   |some z=>cP2 C (idxA n z) x i
   |none=> .no
  |_=> .no
 | .index t x i=>match C.und t with
  |some .string=>cP2 C idxStr x i
  |_=> .no
 | .extract x i=>cP1 C (xtr i) x
 | .call c=>match c.callee with
  | .value (.func f)=>match cmpFs C c.args.toList with
   |some l=> .cs f l
   |none=> .no
  | .builtin .len=>match c.argTypes.toList,c.args.toList with
   | [t], [x] =>match C.und t with
    |some (.slice _)=>cP1 C lenS x
    |some .string=>cP1 C lenStr x
    |_=> .no
   |_,_=> .no
  |_=> .no
 |_=> .no
end
end Go.Proofs.YtdcioacjhpnihaaGreatDoor
namespace Go.Proofs.YtdcioacjhpnihaaGreatDoor
open Go
noncomputable section
abbrev RND:=Nat→List Value→AS→Option (Value × AS)
def CallLe (a b:FCl):Prop:= ∀f args s r,a f args s=some r→b f args s=some r
def RndLe (a b:RND):Prop:= ∀l args s r,a l args s=some r→b l args s=some r
theorem fxo_mono {E:Env} {cl cl':FCl} {rnd rnd':RND} (hc:CallLe cl cl') (hr:RndLe rnd rnd') {ev:Operand→Option Value} {o:Oper} {s:AS} {r:Value × AS} (h:fxo E cl rnd ev o s=some r):fxo E cl' rnd' ev o s=some r:=by
 obtain ⟨dst,op,ty,pos,aft,gd⟩:=o
 cases op with
 |call c=>
  obtain ⟨callee,args,ats⟩:=c
  cases callee with
  |value x=>
   simp only [fxo] at h ⊢
   cases h1:ev x with
   |none=>rw [h1] at h;cases h
   |some u=>
    cases h2:evs ev args.toList with
    |none=>rw [h1,h2] at h;cases u<;>first | (cases h;done)| (rename_i fn _ _;cases fn<;>cases h)
    |some vs=>
     rw [h1,h2] at h
     split at h
     ·rename_i f fs cap vs' e1 e2
      cases e1
      cases e2
      split at h
      ·exact h
      ·exact hc _ _ _ _ h
     ·rename_i l fs cap vs' e1 e2
      cases e1
      cases e2
      exact hr _ _ _ _ h
     ·cases h
  |builtin b=>exact h
  |invoke x m=>exact h
 |_=>exact h
theorem fxo_look {E:Env} {cl:FCl} {rnd:RND} {ev:Operand→Option Value} {o:Oper} {s:AS} (hk:kindOf o=0):fxo E cl rnd ev o s=fop E.C E.P ev s o:=by
 obtain ⟨dst,op,ty,pos,aft,gd⟩:=o
 cases op with
 |call c=>
  obtain ⟨callee,args,ats⟩:=c
  cases callee with
  |builtin b=>rfl
  |_=>simp [kindOf] at hk
 |_=>rfl
inductive GP where
 |no
 |at_ (p:Pa) (b:Bool)
def want:GP→T Value→Bool:=GP.rec (motive:=fun _=>T Value→Bool) (fun _=>true) (fun p b t=>Option.rec (motive:=fun _=>Bool) false (fun v=>Option.rec (motive:=fun _=>Bool) false (fun c=>Bool.rec (motive:=fun _=>Bool) (Bool.rec (motive:=fun _=>Bool) true false b) b c) (xBool v)) (pget p t))
def cmpG (x:FO):GP:=match x.g with
 |none=> .no
 |some (k,b)=> .at_ (pathOf k) b
inductive DP where
 |no
 |at_ (p:Pa)
def dput:DP→Value→T Value→T Value:=DP.rec (motive:=fun _=>Value→T Value→T Value) (fun _ t=>t) (fun p v t=>pput p (some v) t)
def cmpD (d:Option Tmp):DP:=match d with
 |none=> .no
 |some k=> .at_ (pathOf k)
def run1 (ci:CI) (o:Oper) (E:Env) (cl:FCl) (rnd:RND) (t:T Value) (s:AS):Option (Value × AS):=Option.rec (motive:=fun _=>Option (Value × AS)) (fxo E cl rnd (evT E.C t) o s) some (ex ci E cl t s)
def fitO (x:FO):Bool:=(match x.g with |some (k,_)=>Nat.ble (Nat.succ k) 100000 |none=>true)&& (match x.o.dst with |some k=>Nat.ble (Nat.succ k) 100000 |none=>true)
inductive CX where
 |mk (g:GP) (d:DP) (ci:CI) (o:Oper)
inductive RO where
 |no
 |mk (t:T Value) (d:List Deferred) (s:AS)
abbrev GOps:=Env→FCl→RND→T Value→List Deferred→AS→RO
def gNil:GOps:=fun _ _ _ t d s=> .mk t d s
def gCons (x:CX) (ih:GOps):GOps:=fun E cl rnd t d s=>CX.rec (motive:=fun _=>RO) (fun g dp ci o=>Bool.rec (motive:=fun _=>RO) (ih E cl rnd (dput dp undef t) d s) (Option.rec (motive:=fun _=>RO) .no (fun r=>Prod.rec (motive:=fun _=>RO) (fun v s'=>ih E cl rnd (dput dp v t) d s') r) (run1 ci o E cl rnd t s)) (want g t)) x
def gOps:List CX→GOps:=List.rec (motive:=fun _=>GOps) gNil (fun x _ ih=>gCons x ih)
def cmpX (C:Cfg) (x:FO):CX:= .mk (cmpG x) (cmpD x.o.dst) (cmpO C x.o) x.o
def isDefer (o:Oper):Bool:=match o.op with
 | .defer _=>true
 |_=>false
inductive Kd where
 |look
 |make
 |act
inductive CR where
 |mk (g:GP) (d:DP) (ci:CI) (x:FO) (kd:Kd) (lk:Bool) (al:List Nat)
inductive LD where
 |mk (ci:CI) (x:FO) (t:T Value) (v:Value)
def LD.fits (C:Cfg):LD→Prop
 | .mk ci x _ _=>ci=cmpO C x.o
inductive GR where
 |no
 |mk (t:T Value) (s:AS) (effs:List (Nat × Nat)) (gs:List AS) (loads:List LD)
abbrev GRun:=Env→FCl→RND→Nat→Nat→T Value→AS→AS→List (Nat × Nat)→List AS→List LD→Nat→GR
def rNil:GRun:=fun _ _ _ _ _ t _ s effs gs loads _=> .mk t s effs gs loads
def rLook (dp:DP) (ci:CI) (x:FO) (lk:Bool) (ih:GRun):GRun:=fun E cl rnd base n t g s effs gs loads k=>
 Option.rec (motive:=fun _=>GR) .no (fun r=>Prod.rec (motive:=fun _=>GR) (fun v _=>ih E cl rnd base n (dput dp v t) g s effs gs (Bool.rec (motive:=fun _=>List LD) loads (.mk ci x t v::loads) lk) k) r) (run1 ci (FO.o x) E cl rnd t g)
def rMake (dp:DP) (x:FO) (ih:GRun):GRun:=fun E cl rnd base n t g s effs gs loads k=>
 Option.rec (motive:=fun _=>GR) .no (fun r=>Prod.rec (motive:=fun _=>GR) (fun ob v=>Option.rec (motive:=fun _=>GR) .no (fun s'=>ih E cl rnd base n (dput dp v t) g s' effs gs loads k) (hput s (Nat.add base (FO.i x)) ob)) r) (eal (Env.C E) (evT (Env.C E) t) (FO.o x) (Nat.add base (FO.i x)))
def freeAll (s:AS) (base:Nat) (al:List Nat):Bool:=List.rec (motive:=fun _=>Bool) true (fun i _ ih=>Option.rec (motive:=fun _=>Bool) ih (fun _=>false) (hget s (Nat.add base i))) al
def rAct (dp:DP) (ci:CI) (x:FO) (al:List Nat) (ih:GRun):GRun:=fun E cl rnd base n t _ s effs gs loads k=>
 Option.rec (motive:=fun _=>GR) .no (fun r=>Prod.rec (motive:=fun _=>GR) (fun v s'=>Bool.rec (motive:=fun _=>GR) .no (Bool.rec (motive:=fun _=>GR) .no (ih E cl rnd base n (dput dp v t) s' s' (effs++ [(FO.i x,k)]) (gs++ [s']) loads (Nat.succ k)) (freeAll s' base al)) (Nat.ble (Nat.add base n) (AS.n s'))) r) (run1 ci (FO.o x) E cl rnd t s)
def rCons (x:CR) (ih:GRun):GRun:=CR.rec (motive:=fun _=>GRun) (fun g dp ci x kd lk al=>fun E cl rnd base n t gg s effs gs loads k=>
 Bool.rec (motive:=fun _=>GR) (ih E cl rnd base n (dput dp undef t) gg s effs gs loads k) (Kd.rec (motive:=fun _=>GRun) (rLook dp ci x lk ih) (rMake dp x ih) (rAct dp ci x al ih) kd E cl rnd base n t gg s effs gs loads k) (want g t)) x
def gRun:List CR→GRun:=List.rec (motive:=fun _=>GRun) rNil (fun x _ ih=>rCons x ih)
def kdOf (o:Oper):Kd:=match kindOf o with
 |0=> .look
 |1=> .make
 |_=> .act
def alOf:List FO→List Nat
 | [] => []
 |y::l=>if kindOf y.o=1 then y.i::alOf l else alOf l
theorem freeAll_ok {s:AS} {base:Nat}: ∀ {l:List FO},freeAll s base (alOf l)=true→l.all (fun y=>kindOf y.o !=1 || (s.h.get (base+y.i)).isNone)=true
 | [],_=>rfl
 |y::l,h=>by
  unfold alOf at h
  rw [List.all_cons,Bool.and_eq_true]
  split at h
  ·rename_i hk
   have h': (Option.rec (motive:=fun _=>Bool) (freeAll s base (alOf l)) (fun _=>false) (hget s (Nat.add base y.i)):Bool)=true:=h
   cases hg:hget s (Nat.add base y.i) with
   |some _=>rw [hg] at h';cases h'
   |none=>
    rw [hg] at h'
    rw [hget_eq] at hg
    refine ⟨?_,freeAll_ok h'⟩
    have:s.h.get (base+y.i)=none:=hg
    simp [this]
  ·rename_i hk
   exact ⟨by simp [hk],freeAll_ok h⟩
def cmpRs (C:Cfg):List FO→List CR
 | [] => []
 |x::l=> .mk (cmpG x) (cmpD x.o.dst) (cmpO C x.o) x (kdOf x.o) (looksM x.o) (alOf l)::cmpRs C l
end
end Go.Proofs.YtdcioacjhpnihaaGreatDoor
