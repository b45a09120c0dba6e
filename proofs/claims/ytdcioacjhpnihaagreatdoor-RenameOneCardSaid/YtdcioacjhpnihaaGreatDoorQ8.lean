/- What was run once: a call that only reads, in a small memory, says what it gives in any memory that holds the same rows. A call that was run in a memory of its own, with all that it changes: it does the same in a memory that holds more. What was run is taken into the tables, and the tables stay right. Functions without a text: comparing strings, looking for a byte, NoEscape. Contracts that leave what was there as it was: strings.Repeat, crc.Sum. -/
import Derived.Test.YtdcioacjhpnihaaGreatDoorQ7
import Derived.Laws.Externs
import Derived.Below
import Derived.Lib.Repeat
set_option linter.all false
namespace Go.Proofs.YtdcioacjhpnihaaGreatDoor
open Go
noncomputable section
def renE (ρ:Nat→Option Nat) (ι:Emb):Emb:=⟨fun k=>(ρ k).bind ι.b,fun k=>match ρ k with
 |some j=>ι.x j
 |none=>0⟩
def rowF (o:Obj):Prop:= ∃c e fr,o= .cells c e fr∧ ∀v∈c.toList,flat1 v=true∨v= .map (some 15)
theorem rowF_obj {P:Program} {ι κ:Emb} (h15:κ.b 15=ι.b 15) {x:Nat} {o o':Obj} (h:rowF o) (hr:objR P ι x o o'):objR P κ x o o':=by
 obtain ⟨c,e,fr,rfl,hf⟩:=h
 cases o' with
 |cells c' e' fr'=>
  obtain ⟨h1,h2,h3,h4⟩:=hr
  refine ⟨h1,h2,h3,fun i a b=> ?_⟩
  have h5:=h4 i a b
  rcases hf c[i] (by simp) with hv |hv
  ·rw [VR.flat_eq hv h5]
   exact VR.flat1 κ hv
  ·rw [hv] at h5 ⊢
   generalize c'[i] =y at h5
   cases h5 with
   |map hb=>exact .map (h15.trans hb)
 |_=>exact hr.elim
section
variable {P:Program} {G:Nat} {ι:Emb} {s sm:Mem} {w:World} {ρ:Nat→Option Nat}
theorem memo_rep (hr:Rep P G ι s w) (hg: ∀g,g<G→ρ g=some g) (hi:ρ 15=some 15) (hin:15<sm.n) (hn: ∀k,sm.n≤k→ρ k=none)
  (hd: ∀k o,sm.get k=some o→ ∃j,ρ k=some j∧s.get j=some o∧rowF o)
  (hinj: ∀i j k,sm.get i≠none→sm.get j≠none→ρ i=some k→ρ j=some k→i=j):Rep P G (renE ρ ι) sm w where
 obj k o ho:=by
  obtain ⟨j,h1,h2,h3⟩:=hd k o ho
  obtain ⟨b,o',h4,h5,h6⟩:=hr.obj j o h2
  refine ⟨b,o',by simp only [renE,h1,Option.bind_some,h4],h5,?_⟩
  have: (renE ρ ι).x k=ι.x j:=by simp only [renE,h1]
  rw [this]
  exact rowF_obj (by simp only [renE,hi,Option.bind_some]) h3 h6
 inj i k b hi hk h1 h2:=by
  obtain ⟨oi,hoi⟩:=Option.ne_none_iff_exists'.1 hi
  obtain ⟨ok,hok⟩:=Option.ne_none_iff_exists'.1 hk
  obtain ⟨i',p1,p2,_⟩:=hd i oi hoi
  obtain ⟨k',q1,q2,_⟩:=hd k ok hok
  simp only [renE,p1,Option.bind_some] at h1
  simp only [renE,q1,Option.bind_some] at h2
  have:=hr.inj i' k' b (by rw [p2];exact fun e=>by cases e) (by rw [q2];exact fun e=>by cases e) h1 h2
  subst this
  exact hinj i k i' hi hk p1 q1
 new k hk:=by simp only [renE,hn k hk,Option.bind_none]
 glob g hlt:=by simp only [renE,hg g hlt,Option.bind_some,hr.glob g hlt]
 inv:=⟨hin,fun b hb=>by
  have e: (renE ρ ι).b 15=ι.b 15:=by simp only [renE,hi,Option.bind_some]
  rw [e] at hb
  obtain ⟨h1,h2⟩:=hr.inv.pin b hb
  refine ⟨fun k hk hkb=> ?_,h2⟩
  obtain ⟨o,ho⟩:=Option.ne_none_iff_exists'.1 hk
  obtain ⟨j,p1,p2,_⟩:=hd k o ho
  simp only [renE,p1,Option.bind_some] at hkb
  exact h1 j (by rw [p2];exact fun e=>by cases e) hkb⟩
theorem memo_back (hr:Rep P G ι s w) (hi:ρ 15=some 15) (hin:15<sm.n) (hd: ∀k o,sm.get k=some o→ ∃j,ρ k=some j∧s.get j=some o∧rowF o)
  {ι1:Emb} {sm':Mem} {w':World} (ht:Tr P G (renE ρ ι) sm w ι1 sm' w') (hk: ∀k o,sm.get k=some o→sm'.get k=some o):Tr P G ι s w ι s w' where
 le:=ι.le_refl
 rep:=⟨fun k o ho=>by
  obtain ⟨b,o',h1,h2,h3⟩:=hr.obj k o ho
  have hlt:=hr.lt (by rw [ho];exact fun e=>by cases e) h1
  by_cases hb: ∃j,sm.get j≠none∧(renE ρ ι).b j=some b
  ·obtain ⟨j,hj,hjb⟩:=hb
   obtain ⟨oj,hoj⟩:=Option.ne_none_iff_exists'.1 hj
   obtain ⟨j',p1,p2,p3⟩:=hd j oj hoj
   have hjb':=hjb
   simp only [renE,p1,Option.bind_some] at hjb'
   have:=hr.inj j' k b (by rw [p2];exact fun e=>by cases e) (by rw [ho];exact fun e=>by cases e) hjb' h1
   subst this
   rw [ho] at p2
   cases p2
   obtain ⟨b1,o1,q1,q2,q3⟩:=ht.rep.obj j _ (hk j _ hoj)
   obtain ⟨l1,l2⟩:=ht.le j b hjb
   rw [l1] at q1
   cases q1
   refine ⟨b,o1,h1,q2,?_⟩
   rw [l2] at q3
   have: (renE ρ ι).x j=ι.x j':=by simp only [renE,p1]
   rw [this] at q3
   refine rowF_obj ?_ p3 q3
   have e: (renE ρ ι).b 15=ι.b 15:=by simp only [renE,hi,Option.bind_some]
   rw [←e]
   cases hq: (renE ρ ι).b 15 with
   |none=>rw [ht.res 15 hin hq]
   |some q=>rw [(ht.le 15 q hq).1]
  ·refine ⟨b,o',h1,?_,h3⟩
   rw [ht.keep b hlt fun j hj hjb=>hb ⟨j,hj,hjb⟩]
   exact h2,hr.inj,hr.new,hr.glob,hr.inv.same (fun _ h=>h) (Nat.le_refl _) fun j hj hn=>ht.keep j hj fun k hk0 hb=>by
  obtain ⟨o,ho⟩:=Option.ne_none_iff_exists'.1 hk0
  obtain ⟨i,p1,p2,_⟩:=hd k o ho
  simp only [renE,p1,Option.bind_some] at hb
  exact hn i (by rw [p2];exact fun e=>by cases e) hb⟩
 os:=ht.os
 tape:=ht.tape
 output:=ht.output
 size:=ht.size
 keep j hj hn:=ht.keep j hj fun k hk0 hb=>by
  obtain ⟨o,ho⟩:=Option.ne_none_iff_exists'.1 hk0
  obtain ⟨i,p1,p2,_⟩:=hd k o ho
  simp only [renE,p1,Option.bind_some] at hb
  exact hn i (by rw [p2];exact fun e=>by cases e) hb
 rng k b hk0 hb _:=⟨k,hk0,hb⟩
 dom k hk0:= .inl hk0
 n:=Nat.le_refl _
 res _ _ h:=h
end
def rowIs (kd:IntKind):List Nat→List Value→Bool:=List.rec (motive:=fun _=>List Value→Bool) (fun l=>List.rec (motive:=fun _=>Bool) true (fun _ _ _=>false) l)
 (fun n _ ih l=>List.rec (motive:=fun _=>Bool) false (fun v r _=>IV.rec (motive:=fun _=>Bool) false (fun k m=>Bool.rec (motive:=fun _=>Bool) false (Bool.rec (motive:=fun _=>Bool) false (ih r) (Nat.beq (kidx k) (kidx kd))) (Nat.beq m n)) (xInt v)) l)
def ints (kd:IntKind):List Nat→List Value:=List.rec (motive:=fun _=>List Value) [] (fun n _ ih=> .int kd (.ofNat n)::ih)
theorem rowIs_ok {kd:IntKind}: ∀ {ns:List Nat} {l:List Value},rowIs kd ns l=true→l=ints kd ns
 | [], [],_=>rfl
 | [],_::_,h=>by cases h
 |_::_, [],h=>by cases h
 |n::ns,v::l,h=>by
  have h': (IV.rec (motive:=fun _=>Bool) false (fun k m=>Bool.rec (motive:=fun _=>Bool) false (Bool.rec (motive:=fun _=>Bool) false (rowIs kd ns l) (Nat.beq (kidx k) (kidx kd))) (Nat.beq m n)) (xInt v):Bool)=true:=h
  cases h1:xInt v with
  |no=>rw [h1] at h';cases h'
  |nat k m=>
   rw [h1] at h'
   cases h2:Nat.beq m n with
   |false=>simp only [h2] at h';cases h'
   |true=>
    cases h3:Nat.beq (kidx k) (kidx kd) with
    |false=>simp only [h2,h3] at h';cases h'
    |true=>
     simp only [h2,h3] at h'
     rw [xInt_ok h1,kidx_inj h3,Nat.eq_of_beq_eq_true h2,rowIs_ok h']
     rfl
theorem ints_flat {kd:IntKind}: ∀ (ns:List Nat), ∀v∈ints kd ns,flat1 v=true
 | [],v,h=>by cases h
 |n::ns,v,h=>by
  rcases List.mem_cons.1 h with rfl |h
  ·rfl
  ·exact ints_flat ns v h
structure MR where
 e:TypeId
 kd:IntKind
 ns:List Nat
def MR.obj (r:MR):Obj:= .cells ⟨ints r.kd r.ns⟩ r.e (0,0)
theorem MR.rowF (r:MR):rowF r.obj:=⟨_,_,_,rfl,fun v hv=> .inl (ints_flat r.ns v hv)⟩
def isRow (r:MR) (o:Obj):Bool:=match o with
 | .cells c e (a,b)=>Bool.rec (motive:=fun _=>Bool) false (Bool.rec (motive:=fun _=>Bool) false (Bool.rec (motive:=fun _=>Bool) false (rowIs r.kd r.ns (arrL c)) (Nat.beq e r.e)) (Nat.beq a 0)) (Nat.beq b 0)
 |_=>false
theorem isRow_ok {r:MR} {o:Obj} (h:isRow r o=true):o=r.obj:=by
 unfold isRow at h
 split at h
 ·rename_i c e a b
  cases h1:Nat.beq b 0 with
  |false=>rw [h1] at h;cases h
  |true=>
   rw [h1] at h
   cases h2:Nat.beq a 0 with
   |false=>simp only [h2] at h;cases h
   |true=>
    simp only [h2] at h
    cases h3:Nat.beq e r.e with
    |false=>simp only [h3] at h;cases h
    |true=>
     simp only [h3] at h
     have h4:=rowIs_ok h
     rw [arrL_eq] at h4
     have e1:=Nat.eq_of_beq_eq_true h1
     have e2:=Nat.eq_of_beq_eq_true h2
     have e3:=Nat.eq_of_beq_eq_true h3
     subst e1 e2 e3
     unfold MR.obj
     rw [←h4]
 ·cases h
def rowAt (s:AS) (k:Nat) (r:MR):Bool:=Option.rec (motive:=fun _=>Bool) false (isRow r) (hget s k)
theorem rowAt_ok {s:AS} {k:Nat} {r:MR} (h:rowAt s k r=true):s.h.get k=some r.obj:=by
 unfold rowAt at h
 cases h1:hget s k with
 |none=>rw [h1] at h;cases h
 |some o=>
  rw [h1] at h
  rw [hget_eq] at h1
  rw [h1,isRow_ok h]
def rowsAt (s:AS) (l:List (Nat × MR)):Bool:=List.rec (motive:=fun _=>Bool) true (fun x _ ih=>Bool.rec (motive:=fun _=>Bool) false ih (rowAt s x.1 x.2)) l
theorem rowsAt_ok {s:AS}: ∀ {l:List (Nat × MR)},rowsAt s l=true→ ∀x∈l,s.h.get x.1=some x.2.obj
 | [],_,x,hx=>by cases hx
 |y::l,h,x,hx=>by
  have h': (Bool.rec (motive:=fun _=>Bool) false (rowsAt s l) (rowAt s y.1 y.2):Bool)=true:=h
  cases h1:rowAt s y.1 y.2 with
  |false=>rw [h1] at h';cases h'
  |true=>
   rw [h1] at h'
   rcases List.mem_cons.1 hx with rfl |hx
   ·exact rowAt_ok h1
   ·exact rowsAt_ok h' x hx
structure ME where
 f:FuncId
 rows:List (Nat × MR)
 row:MR
 o:Nat
 gr:Bool
 n:Nat
 c:Nat
 rest:List Value
 v:Value
def spOf (b:Bool):Option Nat:=Bool.rec (motive:=fun _=>Option Nat) none (some 0) b
def ME.args (m:ME) (k:Nat):List Value:= .slice (some ⟨k,m.o,spOf m.gr⟩) m.n m.c::m.rest
def smT (l:List (Nat × MR)) (t:T Obj):T Obj:=List.rec (motive:=fun _=>T Obj) t (fun x _ ih=>T.put 100000000 ih x.1 (some x.2.obj)) l
def ME.mem (m:ME):AS:=⟨smT ((50,m.row)::m.rows) .leaf,100⟩
theorem smT_get: ∀ (l:List (Nat × MR)),(∀x∈l,x.1<100)→ ∀k o,(smT l .leaf).get k=some o→ ∃x∈l,x.1=k∧o=x.2.obj
 | [],_,k,o,h=>by
  have h: (T.leaf:T Obj).get k=some o:=h
  rw [T.get_leaf] at h
  cases h
 |x::l,hl,k,o,h=>by
  have h: ((smT l .leaf).put 100000000 x.1 (some x.2.obj)).get k=some o:=h
  have hx:=hl x (by simp)
  rw [T.get_put _ _ _ _ _ (by omega)] at h
  by_cases e:k=x.1
  ·rw [if_pos e] at h
   cases h
   exact ⟨x,by simp,e.symm,rfl⟩
  ·rw [if_neg e] at h
   obtain ⟨y,hy,h1,h2⟩:=smT_get l (fun y hy=>hl y (List.mem_cons_of_mem x hy)) k o h
   exact ⟨y,List.mem_cons_of_mem x hy,h1,h2⟩
def small (l:List (Nat × MR)):Bool:=List.rec (motive:=fun _=>Bool) true (fun x _ ih=>Bool.rec (motive:=fun _=>Bool) false ih (Nat.ble (Nat.succ x.1) 50)) l
theorem small_ok: ∀ {l:List (Nat × MR)},small l=true→ ∀x∈l,x.1<50
 | [],_,x,hx=>by cases hx
 |y::l,h,x,hx=>by
  have h': (Bool.rec (motive:=fun _=>Bool) false (small l) (Nat.ble (Nat.succ y.1) 50):Bool)=true:=h
  cases h1:Nat.ble (Nat.succ y.1) 50 with
  |false=>rw [h1] at h';cases h'
  |true=>
   rw [h1] at h'
   rcases List.mem_cons.1 hx with rfl |hx
   ·exact Nat.le_of_ble_eq_true h1
   ·exact small_ok h' x hx
def flat2:Value→Bool
 | .tuple c=>c.all flat
 |v=>flat v
theorem VR.flat2 (ι:Emb) {v:Value} (h:Proofs.YtdcioacjhpnihaaGreatDoor.flat2 v=true):VR ι v v:=by
 unfold Proofs.YtdcioacjhpnihaaGreatDoor.flat2 at h
 split at h
 ·exact .tuple rfl fun i hi _=>VR.flat ι (Array.all_eq_true'.1 h _ (Array.getElem_mem hi))
 ·exact VR.flat ι h
theorem VR.flat2E {ι:Emb} {v v':Value} (hf:Proofs.YtdcioacjhpnihaaGreatDoor.flat2 v=true) (h:VR ι v v'):v'=v:=by
 unfold Proofs.YtdcioacjhpnihaaGreatDoor.flat2 at hf
 split at hf
 ·cases h with
  |tuple hs hc=>
   congr 1
   refine Array.ext hs.symm fun i h1 h2=> ?_
   exact VR.flatE (Array.all_eq_true'.1 hf _ (Array.getElem_mem h2)) (hc i h2 h1)
 ·exact VR.flatE hf h
def ME.good (E:Env) (N:Nat) (m:ME):Bool:=Bool.rec (motive:=fun _=>Bool) false (Bool.rec (motive:=fun _=>Bool) false (Bool.rec (motive:=fun _=>Bool) false (Option.rec (motive:=fun _=>Bool) false (fun r=>Prod.rec (motive:=fun _=>Bool) (fun v s=>Bool.rec (motive:=fun _=>Bool) false (rowsAt s ((50,m.row)::m.rows)) (veqA v m.v)) r) (wCall E (wCode E N) m.f (m.args 50) m.mem)) (flat2 m.v)) (m.rest.all flat)) (small m.rows)
def ME.is (m:ME) (args:List Value) (s:AS):Option Nat:=match args with
 | .slice (some ⟨k,o,sp⟩) n c::rest=>Bool.rec (motive:=fun _=>Option Nat) none (Bool.rec (motive:=fun _=>Option Nat) none (Bool.rec (motive:=fun _=>Option Nat) none (Bool.rec (motive:=fun _=>Option Nat) none (Bool.rec (motive:=fun _=>Option Nat) none (Bool.rec (motive:=fun _=>Option Nat) none (Bool.rec (motive:=fun _=>Option Nat) none (Bool.rec (motive:=fun _=>Option Nat) none
  (some k) (rowsAt s m.rows)) (rowAt s k m.row)) (veqLs 6 rest m.rest)) (Nat.beq c m.c)) (Nat.beq n m.n)) (Nat.beq o m.o)) (Option.rec (motive:=fun _=>Bool) (Bool.rec (motive:=fun _=>Bool) true false m.gr) (fun x=>Bool.rec (motive:=fun _=>Bool) false m.gr (Nat.beq x 0)) sp)) (Nat.ble 50 k)
 |_=>none
theorem bnrec {b:Bool} {r:Option Nat} {k:Nat} (h: (Bool.rec (motive:=fun _=>Option Nat) none r b:Option Nat)=some k):b=true∧r=some k:=by
 cases b with
 |false=>cases h
 |true=>exact ⟨rfl,h⟩
theorem bbrec {b r:Bool} (h: (Bool.rec (motive:=fun _=>Bool) false r b:Bool)=true):b=true∧r=true:=by
 cases b with
 |false=>cases h
 |true=>exact ⟨rfl,h⟩
theorem ME.is_ok {m:ME} {args:List Value} {s:AS} {k:Nat} (h:m.is args s=some k):50≤k∧args=m.args k∧s.h.get k=some m.row.obj∧ ∀x∈m.rows,s.h.get x.1=some x.2.obj:=by
 unfold ME.is at h
 split at h
 ·rename_i k0 o sp n c rest
  obtain ⟨h1,h⟩:=bnrec h
  obtain ⟨h2,h⟩:=bnrec h
  obtain ⟨h3,h⟩:=bnrec h
  obtain ⟨h4,h⟩:=bnrec h
  obtain ⟨h5,h⟩:=bnrec h
  obtain ⟨h6,h⟩:=bnrec h
  obtain ⟨h7,h⟩:=bnrec h
  obtain ⟨h8,h⟩:=bnrec h
  cases h
  refine ⟨Nat.le_of_ble_eq_true h1,?_,rowAt_ok h7,rowsAt_ok h8⟩
  have e1:=Nat.eq_of_beq_eq_true h3
  have e2:=Nat.eq_of_beq_eq_true h4
  have e3:=Nat.eq_of_beq_eq_true h5
  have e4:=leq_ok (veq_ok 7) _ _ (veqLs_ok _ _ h6)
  have e5:sp=spOf m.gr:=by
   cases sp with
   |none=>
    cases hg:m.gr with
    |false=>rfl
    |true=>simp only [hg] at h2;cases h2
   |some x=>
    simp only at h2
    obtain ⟨p1,p2⟩:=bbrec h2
    rw [p2,Nat.eq_of_beq_eq_true p1]
    rfl
  subst e1 e2 e3 e4 e5
  rfl
 ·cases h
theorem VRl.flat {ι:Emb}: ∀ {l:List Value},l.all Proofs.YtdcioacjhpnihaaGreatDoor.flat=true→VRl ι l l:=fun {l} h=>⟨rfl,fun i v v' h1 h2=>by
 rw [h1] at h2
 cases h2
 exact VR.flat ι (List.all_eq_true.1 h v (List.mem_of_getElem? h1))⟩
theorem VR.sl_ren {ι κ:Emb} {k j o n c:Nat} {g:Bool} {a:Value} (h:VR ι (.slice (some ⟨k,o,spOf g⟩) n c) a) (hb: ∀b,ι.b k=some b→κ.b j=some b) (hx:κ.x j=ι.x k):VR κ (.slice (some ⟨j,o,spOf g⟩) n c) a:=by
 cases g with
 |false=>
  have h:VR ι (.slice (some ⟨k,o,none⟩) n c) a:=h
  cases h with
  |slX _ _ hbk=>exact .slX _ _ (hb _ hbk)
 |true=>
  have h:VR ι (.slice (some ⟨k,o,some 0⟩) n c) a:=h
  cases h with
  |slG _ _ hbk hm9=>rw [←hx] at hm9 ⊢;exact .slG _ _ (hb _ hbk) hm9
theorem memo_ok {E:Env} (hE:E.Ok) (hG:E.C.G≤50) {N:Nat} {m:ME} (hm:m.good E N=true) {args:List Value} {s:AS} {k:Nat} (hk:m.is args s=some k):CallOk E m.f args s m.v s:=by
 obtain ⟨hk0,rfl,hrow,hrows⟩:=ME.is_ok hk
 unfold ME.good at hm
 obtain ⟨h1,hm⟩:=bbrec hm
 obtain ⟨h2,hm⟩:=bbrec hm
 obtain ⟨h3,hm⟩:=bbrec hm
 cases hrun:wCall E (wCode E N) m.f (m.args 50) m.mem with
 |none=>rw [hrun] at hm;cases hm
 |some r=>
  obtain ⟨v,s'⟩:=r
  rw [hrun] at hm
  simp only at hm
  obtain ⟨h4,h5⟩:=bbrec hm
  have hv:=veq_ok 8 _ _ (veqA_ok h4)
  subst hv
  have h6:=rowsAt_ok h5
  have hsm:=small_ok h1
  obtain ⟨c1,c2⟩:=fCall_ok hE (fCode_ok hE N) _ _ _ _ _ (wCall_ok (wCode_ok hE.C N) _ _ _ _ hrun)
  refine ⟨c1,fun ι w args' hr ha=> ?_⟩
  let ρ:Nat→Option Nat:=fun j=>if j=50 then some k else if j<50 then some j else none
  have hget: ∀j o,m.mem.mem.get j=some o→ ∃x∈ (50,m.row)::m.rows,x.1=j∧o=x.2.obj:=fun j o ho=>smT_get _ (fun x hx=>by
   rcases List.mem_cons.1 hx with rfl |hx
   ·exact (by decide:50<100)
   ·have:=hsm x hx;omega) j o ho
  have hd: ∀j o,m.mem.mem.get j=some o→ ∃i,ρ j=some i∧s.mem.get i=some o∧Proofs.YtdcioacjhpnihaaGreatDoor.rowF o:=fun j o ho=>by
   obtain ⟨x,hx,rfl,rfl⟩:=hget j o ho
   rcases List.mem_cons.1 hx with rfl |hx
   ·exact ⟨k,by simp [ρ],hrow,MR.rowF _⟩
   ·have:=hsm x hx
    exact ⟨x.1,by simp only [ρ];rw [if_neg (by omega),if_pos this],hrows x hx,MR.rowF _⟩
  have hrep:Rep E.P E.C.G (renE ρ ι) m.mem.mem w:=memo_rep hr (fun g hg=>by simp only [ρ];rw [if_neg (by omega),if_pos (by omega)]) (by simp [ρ]) (show 15<100 by decide) (fun j hj=>by
    have hj:100≤j:=hj
    simp only [ρ]
    rw [if_neg (by omega),if_neg (by omega)]) hd (fun i j q _ _ e1 e2=>by
    simp only [ρ] at e1 e2
    split at e1<;>split at e2<;> (try split at e1) <;> (try split at e2) <;>simp_all<;>omega)
  have hargs:VRl (renE ρ ι) (m.args 50) args':=by
   have hl:=ha.1
   cases args' with
   |nil=>simp [ME.args] at hl
   |cons a l=>
    have ha0:=ha.2 0 _ a rfl rfl
    have hb: ∀b,ι.b k=some b→(renE ρ ι).b 50=some b:=fun b hb=>by simp [renE,ρ,hb]
    have hx: (renE ρ ι).x 50=ι.x k:=by simp [renE,ρ]
    refine VRl.cons ?_ ⟨by simpa [ME.args] using hl,fun i v v' e1 e2=> ?_⟩
    ·exact ha0.sl_ren hb hx
    ·have hf:=List.all_eq_true.1 h2 v (List.mem_of_getElem? e1)
     have:=ha.2 (i+1) v v' (by simpa [ME.args] using e1) (by simpa using e2)
     rw [VR.flatE hf this]
     exact VR.flat _ hf
  refine (c2 _ _ _ hrep hargs).mono ?_
  rintro e w' ⟨ι',v',rfl,ht,hv'⟩
  refine ⟨ι,v',rfl,memo_back hr (by simp [ρ]) (show 15<100 by decide) hd ht fun j o ho=> ?_,?_⟩
  ·obtain ⟨x,hx,rfl,rfl⟩:=hget j o ho
   exact h6 x hx
  ·rw [VR.flat2E h3 hv']
   exact VR.flat2 ι h3
end
end Go.Proofs.YtdcioacjhpnihaaGreatDoor
namespace Go.Proofs.YtdcioacjhpnihaaGreatDoor
open Go
noncomputable section
theorem Tr.only {P:Program} {G:Nat} {ι ι':Emb} {m m' k:Mem} {w w':World} (h:Tr P G ι m w ι' m' w') (hs: ∀i o,k.get i=some o→m'.get i=some o) (hn:k.n=m'.n):Tr P G ι m w ι' k w':=by
 have hd: ∀i,k.get i≠none→m'.get i≠none:=fun i hi=>by
  obtain ⟨o,ho⟩:=Option.ne_none_iff_exists'.1 hi
  rw [hs i o ho]
  exact fun e=>by cases e
 exact ⟨h.le,h.rep.less hs (by rw [hn];exact Nat.le_refl _),h.os,h.tape,h.output,h.size,h.keep,fun i b hi hb hlt=>h.rng i b (hd i hi) hb hlt,fun i hi=>h.dom i (hd i hi),by rw [hn];exact h.n,h.res⟩
theorem Tr.bump {P:Program} {G:Nat} {ι ι':Emb} {m k m':Mem} {w w':World} (h:Tr P G ι m w ι' m' w') (hg: ∀i,m.get i=k.get i) (hn:k.n≤m.n):Tr P G ι k w ι' m' w' where
 le:=h.le
 rep:=h.rep
 os:=h.os
 tape:=h.tape
 output:=h.output
 size:=h.size
 keep j hj hk:=h.keep j hj fun i hi=>hk i (by rw [←hg i];exact hi)
 rng i b hi hb hlt:=by
  obtain ⟨j,h1,h2⟩:=h.rng i b hi hb hlt
  exact ⟨j,by rw [←hg j];exact h1,h2⟩
 dom i hi:=by
  rcases h.dom i hi with h1 |h1
  ·exact .inl (by rw [←hg i];exact h1)
  ·exact .inr (Nat.le_trans hn h1)
 n:=Nat.le_trans hn h.n
 res i hi:=h.res i (Nat.lt_of_lt_of_le hi hn)
def veqLs8:List Value→List Value→Bool:=List.rec (motive:=fun _=>List Value→Bool) (fun m=>List.rec (motive:=fun _=>Bool) true (fun _ _ _=>false) m) (fun x _ ih m=>List.rec (motive:=fun _=>Bool) false (fun y r _=>Bool.rec (motive:=fun _=>Bool) false (ih r) (veqA x y)) m)
theorem veqLs8_ok: ∀ {a b:List Value},veqLs8 a b=true→a=b
 | [], [],_=>rfl
 | [],_::_,h=>by cases h
 |_::_, [],h=>by cases h
 |x::a,y::b,h=>by
  have h': (Bool.rec (motive:=fun _=>Bool) false (veqLs8 a b) (veqA x y):Bool)=true:=h
  obtain ⟨h1,h2⟩:=bbrec h'
  rw [veq_ok 8 _ _ (veqA_ok h1),veqLs8_ok h2]
def entLs:List MapEntry→List MapEntry→Bool:=List.rec (motive:=fun _=>List MapEntry→Bool) (fun m=>List.rec (motive:=fun _=>Bool) true (fun _ _ _=>false) m) (fun x _ ih m=>List.rec (motive:=fun _=>Bool) false (fun y r _=>Bool.rec (motive:=fun _=>Bool) false (Bool.rec (motive:=fun _=>Bool) false (Bool.rec (motive:=fun _=>Bool) false (ih r) (Nat.beq (MapEntry.born x) (MapEntry.born y))) (veqA (MapEntry.val x) (MapEntry.val y))) (veqA (MapEntry.key x) (MapEntry.key y))) m)
theorem entLs_ok: ∀ {a b:List MapEntry},entLs a b=true→a=b
 | [], [],_=>rfl
 | [],_::_,h=>by cases h
 |_::_, [],h=>by cases h
 |x::a,y::b,h=>by
  have h': (Bool.rec (motive:=fun _=>Bool) false (Bool.rec (motive:=fun _=>Bool) false (Bool.rec (motive:=fun _=>Bool) false (entLs a b) (Nat.beq x.born y.born)) (veqA x.val y.val)) (veqA x.key y.key):Bool)=true:=h
  obtain ⟨h1,h2⟩:=bbrec h'
  obtain ⟨h3,h4⟩:=bbrec h2
  obtain ⟨h5,h6⟩:=bbrec h4
  obtain ⟨xk,xv,xb⟩:=x
  obtain ⟨yk,yv,yb⟩:=y
  have e1:xk=yk:=veq_ok 8 _ _ (veqA_ok h1)
  have e2:xv=yv:=veq_ok 8 _ _ (veqA_ok h3)
  have e3:xb=yb:=Nat.eq_of_beq_eq_true h5
  rw [e1,e2,e3,entLs_ok h6]
def obEq (a b:Obj):Bool:=match a,b with
 | .cells c e (x,y), .cells c' e' (x',y')=>Bool.rec (motive:=fun _=>Bool) false (Bool.rec (motive:=fun _=>Bool) false (Bool.rec (motive:=fun _=>Bool) false (veqLs8 (arrL c) (arrL c')) (Nat.beq e e')) (Nat.beq x x')) (Nat.beq y y')
 | .map es n, .map es' n'=>Bool.rec (motive:=fun _=>Bool) false (entLs (arrL es) (arrL es')) (Nat.beq n n')
 | .chan e c u z i t, .chan e' c' u' z' i' t'=>Bool.rec (motive:=fun _=>Bool) false (Bool.rec (motive:=fun _=>Bool) false (Bool.rec (motive:=fun _=>Bool) false (Bool.rec (motive:=fun _=>Bool) false (Bool.rec (motive:=fun _=>Bool) false (veqLs8 (arrL c) (arrL c')) (Nat.beq e e')) (Nat.beq z z')) (Nat.beq i i')) (u==u')) (t==t')
 |_,_=>false
theorem arrL_inj {α:Type} {c c':Array α} (h:arrL c=arrL c'):c=c':=by
 rw [arrL_eq,arrL_eq] at h
 exact Array.ext' h
theorem obEq_ok {a b:Obj} (h:obEq a b=true):a=b:=by
 unfold obEq at h
 split at h
 ·obtain ⟨h1,h⟩:=bbrec h
  obtain ⟨h2,h⟩:=bbrec h
  obtain ⟨h3,h⟩:=bbrec h
  rw [Nat.eq_of_beq_eq_true h1,Nat.eq_of_beq_eq_true h2,Nat.eq_of_beq_eq_true h3,arrL_inj (veqLs8_ok h)]
 ·obtain ⟨h1,h⟩:=bbrec h
  rw [Nat.eq_of_beq_eq_true h1,arrL_inj (entLs_ok h)]
 ·obtain ⟨h1,h⟩:=bbrec h
  obtain ⟨h2,h⟩:=bbrec h
  obtain ⟨h3,h⟩:=bbrec h
  obtain ⟨h4,h⟩:=bbrec h
  obtain ⟨h5,h⟩:=bbrec h
  rw [eq_of_beq h1,eq_of_beq h2,Nat.eq_of_beq_eq_true h3,Nat.eq_of_beq_eq_true h4,Nat.eq_of_beq_eq_true h5,arrL_inj (veqLs8_ok h)]
 ·cases h
abbrev ML:=List (Nat × Obj)
def putM (l:ML) (t:T Obj):T Obj:=List.rec (motive:=fun _=>T Obj) t (fun x _ ih=>T.put 100000000 ih x.1 (some x.2)) l
def holds (s:AS) (l:ML):Bool:=List.rec (motive:=fun _=>Bool) true (fun x _ ih=>Bool.rec (motive:=fun _=>Bool) false ih (Option.rec (motive:=fun _=>Bool) false (fun o=>obEq o x.2) (hget s x.1))) l
theorem holds_ok {s:AS}: ∀ {l:ML},holds s l=true→ ∀x∈l,s.h.get x.1=some x.2
 | [],_,x,hx=>by cases hx
 |y::l,h,x,hx=>by
  have h': (Bool.rec (motive:=fun _=>Bool) false (holds s l) (Option.rec (motive:=fun _=>Bool) false (fun o=>obEq o y.2) (hget s y.1)):Bool)=true:=h
  obtain ⟨h1,h2⟩:=bbrec h'
  rcases List.mem_cons.1 hx with rfl |hx
  ·cases h3:hget s x.1 with
   |none=>rw [h3] at h1;cases h1
   |some o=>
    rw [h3] at h1
    rw [hget_eq] at h3
    rw [h3,obEq_ok h1]
  ·exact holds_ok h2 x hx
def fitM (l:ML):Bool:=List.rec (motive:=fun _=>Bool) true (fun x _ ih=>Bool.rec (motive:=fun _=>Bool) false ih (Nat.ble (Nat.succ x.1) 100000000)) l
theorem fitM_ok: ∀ {l:ML},fitM l=true→ ∀x∈l,x.1<100000000
 | [],_,x,hx=>by cases hx
 |y::l,h,x,hx=>by
  have h': (Bool.rec (motive:=fun _=>Bool) false (fitM l) (Nat.ble (Nat.succ y.1) 100000000):Bool)=true:=h
  obtain ⟨h1,h2⟩:=bbrec h'
  rcases List.mem_cons.1 hx with rfl |hx
  ·exact Nat.le_of_ble_eq_true h1
  ·exact fitM_ok h2 x hx
theorem putM_get: ∀ {l:ML} (t:T Obj),(∀x∈l,x.1<100000000)→ ∀k,(putM l t).get k=(match (putM l .leaf).get k with
  |some o=>some o
  |none=>t.get k)
 | [],t,_,k=>by
  show t.get k=match (T.leaf:T Obj).get k with
   |some o=>some o
   |none=>t.get k
  rw [T.get_leaf]
 |x::l,t,hl,k=>by
  have hx:=hl x (by simp)
  have ih:=putM_get t (fun y hy=>hl y (List.mem_cons_of_mem x hy)) k
  show ((putM l t).put 100000000 x.1 (some x.2)).get k=match ((putM l .leaf).put 100000000 x.1 (some x.2)).get k with
   |some o=>some o
   |none=>t.get k
  rw [T.get_put _ _ _ _ _ hx,T.get_put _ _ _ _ _ hx]
  by_cases e:k=x.1
  ·rw [if_pos e,if_pos e]
  ·rw [if_neg e,if_neg e,ih]
theorem putM_mem: ∀ {l:ML},(∀x∈l,x.1<100000000)→ ∀ {k o},(putM l .leaf).get k=some o→(k,o)∈l
 | [],_,k,o,h=>by
  have h: (T.leaf:T Obj).get k=some o:=h
  rw [T.get_leaf] at h
  cases h
 |x::l,hl,k,o,h=>by
  have h: ((putM l .leaf).put 100000000 x.1 (some x.2)).get k=some o:=h
  rw [T.get_put _ _ _ _ _ (hl x (by simp))] at h
  by_cases e:k=x.1
  ·rw [if_pos e] at h
   cases h
   subst e
   exact List.mem_cons_self
  ·rw [if_neg e] at h
   exact List.mem_cons_of_mem x (putM_mem (fun y hy=>hl y (List.mem_cons_of_mem x hy)) h)
def delM (l:ML) (t:T Obj):T Obj:=List.rec (motive:=fun _=>T Obj) t (fun x _ ih=>T.put 100000000 ih x.1 none) l
theorem delM_get: ∀ {l:ML} (t:T Obj),(∀x∈l,x.1<100000000)→ ∀k,(delM l t).get k=if (putM l .leaf).get k≠none then none else t.get k
 | [],t,_,k=>by
  show t.get k=if (T.leaf:T Obj).get k≠none then none else t.get k
  rw [T.get_leaf,if_neg (fun h=>h rfl)]
 |x::l,t,hl,k=>by
  have hx:=hl x (by simp)
  have ih:=delM_get t (fun y hy=>hl y (List.mem_cons_of_mem x hy)) k
  show ((delM l t).put 100000000 x.1 none).get k=if ((putM l .leaf).put 100000000 x.1 (some x.2)).get k≠none then none else t.get k
  rw [T.get_put _ _ _ _ _ hx,T.get_put _ _ _ _ _ hx]
  by_cases e:k=x.1
  ·rw [if_pos e,if_pos e,if_pos (fun h=>by cases h)]
  ·rw [if_neg e,if_neg e,ih]
structure CE where
 f:FuncId
 args:List Value
 n:Nat
 pre:ML
 v:Value
 m:Nat
 post:ML
def CE.mem (c:CE):AS:=⟨putM c.pre .leaf,c.n⟩
def CE.good (E:Env) (N:Nat) (c:CE):Bool:=Bool.rec (motive:=fun _=>Bool) false (Bool.rec (motive:=fun _=>Bool) false (Option.rec (motive:=fun _=>Bool) false (fun r=>Prod.rec (motive:=fun _=>Bool) (fun v s=>Bool.rec (motive:=fun _=>Bool) false (Bool.rec (motive:=fun _=>Bool) false (holds s c.post) (Nat.beq (AS.n s) c.m)) (veqA v c.v)) r) (wCall E (wCode E N) c.f c.args c.mem)) (fitM c.post)) (fitM c.pre)
def CE.is (c:CE) (args:List Value) (s:AS):Bool:=Bool.rec (motive:=fun _=>Bool) false (Bool.rec (motive:=fun _=>Bool) false (holds s c.pre) (Nat.ble (AS.n s) c.n)) (veqLs8 args c.args)
def CE.to (c:CE) (s:AS):AS:=⟨putM c.post (delM c.pre (AS.h s)),c.m⟩
theorem piece_ok {E:Env} (hE:E.Ok) {N:Nat} {c:CE} (hc:c.good E N=true) {args:List Value} {s:AS} (hi:c.is args s=true):CallOk E c.f args s c.v (c.to s):=by
 unfold CE.is at hi
 obtain ⟨i1,hi⟩:=bbrec hi
 obtain ⟨i2,i3⟩:=bbrec hi
 have ha:=veqLs8_ok i1
 subst ha
 have hn:s.n≤c.n:=Nat.le_of_ble_eq_true i2
 have hpre:=holds_ok i3
 unfold CE.good at hc
 obtain ⟨g1,hc⟩:=bbrec hc
 obtain ⟨g2,hc⟩:=bbrec hc
 have f1:=fitM_ok g1
 have f2:=fitM_ok g2
 cases hrun:wCall E (wCode E N) c.f c.args c.mem with
 |none=>rw [hrun] at hc;cases hc
 |some r=>
  obtain ⟨v,s1⟩:=r
  rw [hrun] at hc
  obtain ⟨h4,hc⟩:=bbrec hc
  obtain ⟨h5,h6⟩:=bbrec hc
  have hv:=veq_ok 8 _ _ (veqA_ok h4)
  subst hv
  have hm:s1.n=c.m:=Nat.eq_of_beq_eq_true h5
  have hpost:=holds_ok h6
  obtain ⟨c1,c2⟩:=fCall_ok hE (fCode_ok hE N) _ _ _ _ _ (wCall_ok (wCode_ok hE.C N) _ _ _ _ hrun)
  refine ⟨c1,fun ι w args' hr har=> ?_⟩
  have hsub: ∀k o,c.mem.mem.get k=some o→s.mem.get k=some o:=fun k o ho=>hpre (k,o) (putM_mem f1 ho)
  have hr2:Rep E.P E.C.G ι ⟨s.mem.get,c.n⟩ w:=hr.less (fun _ _ h=>h) hn
  have hrep:Rep E.P E.C.G ι c.mem.mem w:=hr.less hsub hn
  refine (c2 _ _ _ hrep har).mono ?_
  rintro e w' ⟨ι',v',rfl,ht,hv'⟩
  refine ⟨ι',v',rfl,?_,hv'⟩
  have ht2:=ht.only (k:=⟨(putM c.post .leaf).get,c.m⟩) (fun k o ho=>hpost (k,o) (putM_mem f2 ho)) hm.symm
  refine (ht2.frame (H:=⟨s.mem.get,c.n⟩) (H':=(c.to s).mem) hr2 hsub rfl rfl (fun k=> ?_) fun k hk _=> ?_).bump (fun _=>rfl) hn
  ·show (putM c.post (delM c.pre s.h)).get k=_
   rw [putM_get _ f2 k]
   show _=if (putM c.post .leaf).get k≠none then (putM c.post .leaf).get k else if c.mem.mem.get k=none then s.h.get k else none
   cases hk: (putM c.post .leaf).get k with
   |some o=>simp
   |none=>
    simp only [ne_eq,not_true,if_false]
    rw [delM_get s.h f1 k]
    by_cases hk2:c.mem.mem.get k=none
    ·rw [if_pos hk2]
     exact if_neg (fun h=>h hk2)
    ·rw [if_neg hk2]
     exact if_pos hk2
  ·show k<c.n
   refine Nat.lt_of_not_le fun hle=> ?_
   obtain ⟨o,ho⟩:=Option.ne_none_iff_exists'.1 hk
   obtain ⟨b,_,hb,_⟩:=hr2.obj k o ho
   rw [hr2.new k hle] at hb
   cases hb
end
end Go.Proofs.YtdcioacjhpnihaaGreatDoor
namespace Go.Proofs.YtdcioacjhpnihaaGreatDoor
open Go
noncomputable section
abbrev ORC:=FuncId→List Value→AS→Option (Value × AS)
def memoOf (l:List ME):ORC:=fun f args s=>List.rec (motive:=fun _=>Option (Value × AS)) none (fun m _ ih=>Bool.rec (motive:=fun _=>Option (Value × AS)) ih (Option.rec (motive:=fun _=>Option (Value × AS)) ih (fun _=>some (ME.v m,s)) (ME.is m args s)) (Nat.beq (ME.f m) f)) l
theorem memoOf_ok {f:FuncId} {args:List Value} {s:AS} {r:Value × AS}: ∀ {l:List ME},memoOf l f args s=some r→ ∃m∈l, ∃k,m.f=f∧m.is args s=some k∧r=(m.v,s)
 | [],h=>by cases h
 |m::l,h=>by
  have h': (Bool.rec (motive:=fun _=>Option (Value × AS)) (memoOf l f args s) (Option.rec (motive:=fun _=>Option (Value × AS)) (memoOf l f args s) (fun _=>some (m.v,s)) (m.is args s)) (Nat.beq m.f f):Option (Value × AS))=some r:=h
  have up:memoOf l f args s=some r→ ∃m'∈m::l, ∃k,m'.f=f∧m'.is args s=some k∧r=(m'.v,s):=fun h=>by
   obtain ⟨m',h1,h2⟩:=memoOf_ok h
   exact ⟨m',List.mem_cons_of_mem m h1,h2⟩
  cases h1:Nat.beq m.f f with
  |false=>rw [h1] at h';exact up h'
  |true=>
   rw [h1] at h'
   cases h2:m.is args s with
   |none=>simp only [h2] at h';exact up h'
   |some k=>
    simp only [h2] at h'
    cases h'
    exact ⟨m,by simp,k,Nat.eq_of_beq_eq_true h1,h2,rfl⟩
def pieceOf (l:List CE):ORC:=fun f args s=>List.rec (motive:=fun _=>Option (Value × AS)) none (fun c _ ih=>Bool.rec (motive:=fun _=>Option (Value × AS)) ih (Bool.rec (motive:=fun _=>Option (Value × AS)) ih (some (CE.v c,CE.to c s)) (CE.is c args s)) (Nat.beq (CE.f c) f)) l
theorem pieceOf_ok {f:FuncId} {args:List Value} {s:AS} {r:Value × AS}: ∀ {l:List CE},pieceOf l f args s=some r→ ∃c∈l,c.f=f∧c.is args s=true∧r=(c.v,c.to s)
 | [],h=>by cases h
 |c::l,h=>by
  have h': (Bool.rec (motive:=fun _=>Option (Value × AS)) (pieceOf l f args s) (Bool.rec (motive:=fun _=>Option (Value × AS)) (pieceOf l f args s) (some (c.v,c.to s)) (c.is args s)) (Nat.beq c.f f):Option (Value × AS))=some r:=h
  have up:pieceOf l f args s=some r→ ∃c'∈c::l,c'.f=f∧c'.is args s=true∧r=(c'.v,c'.to s):=fun h=>by
   obtain ⟨c',h1,h2⟩:=pieceOf_ok h
   exact ⟨c',List.mem_cons_of_mem c h1,h2⟩
  cases h1:Nat.beq c.f f with
  |false=>rw [h1] at h';exact up h'
  |true=>
   rw [h1] at h'
   cases h2:c.is args s with
   |false=>simp only [h2] at h';exact up h'
   |true=>
    simp only [h2] at h'
    cases h'
    exact ⟨c,by simp,Nat.eq_of_beq_eq_true h1,h2,rfl⟩
def Env.more (E:Env) (o:ORC):Env:= {E with orc:=fun f args s=>Option.rec (motive:=fun _=>Option (Value × AS)) (E.orc f args s) some (o f args s)}
theorem Env.Ok.more {E:Env} (hE:E.Ok) {o:ORC} (ho: ∀f args s v s',o f args s=some (v,s')→CallOk E f args s v s'): (E.more o).Ok where
 C:=hE.C
 mixed:=hE.mixed
 fns:=hE.fns
 orc f args s v s' h:=by
  have h': (Option.rec (motive:=fun _=>Option (Value × AS)) (E.orc f args s) some (o f args s):Option (Value × AS))=some (v,s'):=h
  cases h1:o f args s with
  |none=>rw [h1] at h';exact hE.orc f args s v s' h'
  |some r=>
   rw [h1] at h'
   cases h'
   exact ho f args s v s' h1
 ext:=hE.ext
 quiet:=hE.quiet
theorem Env.Ok.memo {E:Env} (hE:E.Ok) (hG:E.C.G≤50) {N:Nat} {l:List ME} (hl: ∀m∈l,m.good E N=true): (E.more (memoOf l)).Ok:=hE.more fun f args s v s' h=>by
 obtain ⟨m,hm,k,rfl,hk,he⟩:=memoOf_ok h
 cases he
 exact memo_ok hE hG (hl m hm) hk
theorem Env.Ok.pieces {E:Env} (hE:E.Ok) {N:Nat} {l:List CE} (hl: ∀c∈l,c.good E N=true): (E.more (pieceOf l)).Ok:=hE.more fun f args s v s' h=>by
 obtain ⟨c,hc,rfl,hi,he⟩:=pieceOf_ok h
 cases he
 exact piece_ok hE (hl c hc) hi
end
end Go.Proofs.YtdcioacjhpnihaaGreatDoor
namespace Go.Proofs.YtdcioacjhpnihaaGreatDoor
open Go
noncomputable section
theorem ba_get (a:ByteArray) (i:Nat):a[i]! =(a.data.toList[i]?).getD default:=by
 rw [getElem!_def]
 by_cases h:i<a.size
 ·rw [getElem?_pos a i h]
  have h':i<a.data.toList.length:=by simpa using h
  rw [List.getElem?_eq_getElem h']
  rfl
 ·rw [getElem?_neg a i h]
  have h': ¬i<a.data.toList.length:=by simpa using h
  rw [List.getElem?_eq_none (by omega)]
  rfl
theorem ba_size (c:ByteArray):c.size=c.data.toList.length:=by
 show c.data.size=_
 rw [Array.length_toList]
theorem len2 {α:Type}: ∀ {l:List α},l.length=2→ ∃a b,l= [a,b]
 | [a,b],_=>⟨a,b,rfl⟩
inductive C3 where
 |lt
 |eq
 |gt
def c3:C3→Int:=C3.rec (motive:=fun _=>Int) (-1) 0 1
def idxL:List UInt8→Nat→Nat→Option Nat:=List.rec (motive:=fun _=>Nat→Nat→Option Nat) (fun _ _=>none) (fun x _ ih c k=>Bool.rec (motive:=fun _=>Option Nat) (ih c (Nat.succ k)) (some k) (Nat.beq (UInt8.toNat x) c))
theorem idxL_ok (c:UInt8): ∀ (l:List UInt8) (k:Nat),idxL l c.toNat k=((List.range l.length).find? fun i=>(l[i]?).getD default==c).map (· +k)
 | [],k=>rfl
 |x::l,k=>by
  have h:idxL (x::l) c.toNat k=(Bool.rec (motive:=fun _=>Option Nat) (idxL l c.toNat (k+1)) (some k) (Nat.beq (UInt8.toNat x) c.toNat):Option Nat):=rfl
  rw [h,List.length_cons,List.range_succ_eq_map,List.find?_cons,beqB]
  by_cases e:x=c
  ·subst e
   simp
  ·rw [decide_eq_false (fun h=>e (UInt8.toNat_inj.1 h))]
   have h0: (((x::l)[0]?).getD default==c)=false:=by simpa using e
   simp only [h0,List.find?_map]
   have: ((fun i=>((x::l)[i]?).getD default==c)∘Nat.succ)=fun i=>(l[i]?).getD default==c:=by
    funext i
    simp
   rw [this,idxL_ok c l (k+1),Option.map_map]
   congr 1
   funext i
   simp only [Function.comp]
   omega
def xIdx (args:List Value) (s:AS):Option (Value × AS):=match args with
 | [a, .int .u8 (.ofNat c)] =>Bool.rec (motive:=fun _=>Option (Value × AS)) none (Option.rec (motive:=fun _=>Option (Value × AS)) none (fun l=>some (Option.rec (motive:=fun _=>Value) (goInt (-1)) (fun i=>goInt (.ofNat i)) (idxL l c 0),s)) (xStr a)) (Nat.ble (Nat.succ c) 256)
 |_=>none
def xSame (args:List Value) (s:AS):Option (Value × AS):=match args with
 | [a] =>some (a,s)
 |_=>none
def ExtOk (P:Program) (f:FuncId) (e:Array Value→Sem Value):Prop:= ∀args w,(callFunc f args).run P w=((e args).run P w).andThen fun v w'=> .ok (.value v) w'
section
variable {P:Program} {C:Cfg} {f:FuncId} {args:List Value} {s s':AS} {v:Value} {ι:Emb} {w:World} {args':List Value}
theorem xSame_ok (hf:ExtOk P f Extern.AbiNoEscape.same) (h:xSame args s=some (v,s')) (hr:Rep P C.G ι s.mem w) (ha:VRl ι args args'):
  ∃ι' w' v',(callFunc f args'.toArray).run P w= .ok (.value v') w'∧Tr P C.G ι s.mem w ι' s'.mem w'∧VR ι' v v':=by
 unfold xSame at h
 split at h
 ·rename_i a
  cases h
  obtain ⟨b,rfl⟩: ∃b,args'= [b] :=List.length_eq_one_iff.1 ha.1.symm
  exact ⟨ι,w,b,by rw [hf];rfl,Tr.refl hr,ha.2 0 _ _ rfl rfl⟩
 ·cases h
theorem xIdx_ok (hf:ExtOk P f Extern.BytealgIndexByte.indexByte) (h:xIdx args s=some (v,s')) (hr:Rep P C.G ι s.mem w) (ha:VRl ι args args'):
  ∃ι' w' v',(callFunc f args'.toArray).run P w= .ok (.value v') w'∧Tr P C.G ι s.mem w ι' s'.mem w'∧VR ι' v v':=by
 unfold xIdx at h
 split at h
 ·rename_i a c
  cases hc:Nat.ble (Nat.succ c) 256 with
  |false=>rw [hc] at h;cases h
  |true=>
   rw [hc] at h
   have hc':c<256:=Nat.le_of_ble_eq_true hc
   cases h1:xStr a with
   |none=>simp only [h1] at h;cases h
   |some l=>
    simp only [h1] at h
    cases h
    obtain ⟨x,rfl,rfl⟩:=xStr_ok h1
    obtain ⟨b,d,rfl⟩: ∃b d,args'= [b,d] :=len2 ha.1.symm
    have e1:=VR.flatE (v:= .string x) rfl (ha.2 0 _ _ rfl rfl)
    have e2:=VR.flatE (v:= .int .u8 (.ofNat c)) rfl (ha.2 1 _ _ rfl rfl)
    subst e1 e2
    have hk: (c.toUInt8).toNat=c:=by simp [Nat.toUInt8];omega
    have hi:=idxL_ok c.toUInt8 x.data.toList 0
    rw [hk] at hi
    have hs:x.size=x.data.toList.length:=ba_size x
    refine ⟨ι,w,(match (List.range x.size).find? fun i=>x[i]! ==c.toUInt8 with
     |some i=>goInt i
     |none=>goInt (-1)),?_,Tr.refl hr,?_⟩
    ·rw [hf]
     show (Sem.run P (match (List.range x.size).find? fun i=>x[i]! ==c.toUInt8 with
      |some i=>pure (goInt i)
      |none=>pure (goInt (-1))) w).andThen _=_
     cases (List.range x.size).find? fun i=>x[i]! ==c.toUInt8<;>rfl
    ·simp only [ba_get,hs]
     rw [hi]
     cases (List.range x.data.toList.length).find? fun i=>(x.data.toList[i]?).getD default==c.toUInt8 with
     |some i=>exact .int _ _
     |none=>exact .int _ _
 ·cases h
end
end
end Go.Proofs.YtdcioacjhpnihaaGreatDoor
namespace Go.Proofs.YtdcioacjhpnihaaGreatDoor
open Go Go.RowKit
noncomputable section
theorem Tr.below {P:Program} {G:Nat} {ι:Emb} {m:Mem} {w w':World} (hr:Rep P G ι m w) (h:Below w.heap.size w w'):Tr P G ι m w ι m w' where
 le:=ι.le_refl
 rep:=⟨fun k o ho=>by
  obtain ⟨b,o',h1,h2,h3⟩:=hr.obj k o ho
  exact ⟨b,o',h1,by rw [h.block b (hr.lt (by rw [ho];exact fun e=>by cases e) h1)];exact h2,h3⟩,hr.inj,hr.new,hr.glob,hr.inv.same (fun _ h=>h) (Nat.le_refl _) fun j hj _=>h.block j hj⟩
 os:=h.os
 tape:=h.tape
 output:=h.output
 size:=h.size
 keep j hj _:=h.block j hj
 rng k b hk hb _:=⟨k,hk,hb⟩
 dom k hk:= .inl hk
 n:=Nat.le_refl _
 res _ _ h:=h
def AnsOk (P:Program) (C:Cfg) (f:FuncId) (args:List Value) (s:AS) (v:Value) (s':AS):Prop:= ∀ (ι:Emb) (w:World) (args':List Value),Rep P C.G ι s.mem w→VRl ι args args'→Calls P f args'.toArray w fun e w'=> ∃ι' v',e= .returned v'∧Tr P C.G ι s.mem w ι' s'.mem w'∧VR ι' v v'
def repK (l:List UInt8) (n:Nat):List UInt8:=Nat.rec (motive:=fun _=>List UInt8) [] (fun _ ih=>lapp2 l ih) n
theorem repK_eq (l:List UInt8): ∀n,repK l n=Lib.repeatL l n
 |0=>rfl
 |n+1=>by
  show lapp2 l (repK l n)=l++Lib.repeatL l n
  rw [lapp2_eq,repK_eq l n]
def xRep (args:List Value) (s:AS):Option (Value × AS):=match args with
 | [a,b] =>Option.rec (motive:=fun _=>Option (Value × AS)) none (fun l=>IV.rec (motive:=fun _=>Option (Value × AS)) none (fun kd n=>Bool.rec (motive:=fun _=>Option (Value × AS)) none (Bool.rec (motive:=fun _=>Option (Value × AS)) none (Bool.rec (motive:=fun _=>Option (Value × AS)) none (some (.string ⟨⟨repK l n⟩⟩,s)) (Nat.beq (kidx kd) (kidx .i64))) (Nat.ble (Nat.mul (llen l) n) 140737488355328)) (Nat.ble n 1000000)) (xInt b)) (xStr a)
 |_=>none
section
variable {P:Program} {C:Cfg} {f:FuncId} {args:List Value} {s s':AS} {v:Value}
theorem xRep_ok (H: ∀ (b:ByteArray) (c:Nat) (w:World),c≤1000000→b.size*c≤140737488355328→Calls P f #[.string b, .int .i64 c] w fun e w'=>e= .returned (.string ⟨(Lib.repeatL b.data.toList c).toArray⟩)∧Below w.heap.size w w')
  (h:xRep args s=some (v,s')):AnsOk P C f args s v s':=by
 unfold xRep at h
 split at h
 ·rename_i a b
  cases h1:xStr a with
  |none=>rw [h1] at h;cases h
  |some l=>
   cases h2:xInt b with
   |no=>simp only [h1,h2] at h;cases h
   |nat kd n=>
    simp only [h1,h2] at h
    cases h3:Nat.ble n 1000000 with
    |false=>rw [h3] at h;cases h
    |true=>
     cases h4:Nat.ble (Nat.mul (llen l) n) 140737488355328 with
     |false=>simp only [h3,h4] at h;cases h
     |true=>
      cases h5:Nat.beq (kidx kd) (kidx .i64) with
      |false=>simp only [h3,h4,h5] at h;cases h
      |true=>
       simp only [h3,h4,h5] at h
       cases h
       obtain ⟨x,rfl,rfl⟩:=xStr_ok h1
       have hb:=xInt_ok h2
       have hk:=kidx_inj h5
       subst hb hk
       intro ι w args' hr ha
       obtain ⟨c,d,rfl⟩: ∃c d,args'= [c,d] :=len2 ha.1.symm
       have e1:=VR.flatE (v:= .string x) rfl (ha.2 0 _ _ rfl rfl)
       have e2:=VR.flatE (v:= .int .i64 (.ofNat n)) rfl (ha.2 1 _ _ rfl rfl)
       subst e1 e2
       have hl:x.size*n≤140737488355328:=by
        have:=Nat.le_of_ble_eq_true h4
        rw [llen_eq] at this
        rw [ba_size]
        exact this
       refine (H x n w (Nat.le_of_ble_eq_true h3) hl).mono ?_
       rintro e w' ⟨rfl,hw⟩
       refine ⟨ι,_,rfl,Tr.below hr hw,?_⟩
       rw [←repK_eq]
       exact .string _
 ·cases h
end
def hvs:List Nat:= [0,274646895,549293790,820201905,1098587580,1361435347,1640403810,1905808397,2197175160,2460548119,2722870694,2987750089,3280807620,3553878443,3811616794,4084100981]
def crcS (n:Nat):Nat:=Nat.xor (lgetD hvs (Nat.mod n 16)) (Nat.div n 16)
def crcL':List Nat→Nat→Nat:=List.rec (motive:=fun _=>Nat→Nat) (fun n=>n) (fun c _ ih n=>ih (crcS (crcS (Nat.xor n c))))
def crcN (l:List Nat):Nat:=Nat.xor 4294967295 (crcL' l 4294967295)
def natsOf (kd:IntKind) (m:Nat):List Value→Option (List Nat):=List.rec (motive:=fun _=>Option (List Nat)) (some []) (fun v _ ih=>IV.rec (motive:=fun _=>Option (List Nat)) none (fun k n=>Bool.rec (motive:=fun _=>Option (List Nat)) none (Bool.rec (motive:=fun _=>Option (List Nat)) none (Option.rec (motive:=fun _=>Option (List Nat)) none (fun r=>some (n::r)) ih) (Nat.beq (kidx k) (kidx kd))) (Nat.ble (Nat.succ n) m)) (xInt v))
theorem natsOf_ok {kd:IntKind} {m:Nat}: ∀ {l:List Value} {r:List Nat},natsOf kd m l=some r→l=ints kd r∧ ∀x∈r,x<m
 | [],r,h=>by cases h;exact ⟨rfl,fun x hx=>by cases hx⟩
 |v::l,r,h=>by
  have h': (IV.rec (motive:=fun _=>Option (List Nat)) none (fun k n=>Bool.rec (motive:=fun _=>Option (List Nat)) none (Bool.rec (motive:=fun _=>Option (List Nat)) none (Option.rec (motive:=fun _=>Option (List Nat)) none (fun r=>some (n::r)) (natsOf kd m l)) (Nat.beq (kidx k) (kidx kd))) (Nat.ble (Nat.succ n) m)) (xInt v):Option (List Nat))=some r:=h
  cases h1:xInt v with
  |no=>rw [h1] at h';cases h'
  |nat k n=>
   rw [h1] at h'
   cases h2:Nat.ble (Nat.succ n) m with
   |false=>simp only [h2] at h';cases h'
   |true=>
    cases h3:Nat.beq (kidx k) (kidx kd) with
    |false=>simp only [h2,h3] at h';cases h'
    |true=>
     simp only [h2,h3] at h'
     obtain ⟨q,h4,h5⟩:=orec h'
     cases h5
     obtain ⟨e1,e2⟩:=natsOf_ok h4
     refine ⟨by rw [xInt_ok h1,kidx_inj h3,e1];rfl,fun x hx=> ?_⟩
     rcases List.mem_cons.1 hx with rfl |hx
     ·exact Nat.le_of_ble_eq_true h2
     ·exact e2 x hx
def xCrc (g:Nat) (r:MR) (args:List Value) (s:AS):Option (Value × AS):=match args with
 | [.slice x n c] =>Bool.rec (motive:=fun _=>Option (Value × AS)) none (Bool.rec (motive:=fun _=>Option (Value × AS)) none (Option.rec (motive:=fun _=>Option (Value × AS)) none (fun x=>Prod.rec (motive:=fun _=>Option (Value × AS)) (fun _ l=>Option.rec (motive:=fun _=>Option (Value × AS)) none (fun ns=>some (.int .u32 (.ofNat (crcN ns)),s)) (natsOf .u8 256 l)) x) (newsK 1 s (.slice x n c))) (rowAt s g r)) (Nat.ble n 1000000)
 |_=>none
theorem ints_get {kd:IntKind}: ∀ (ns:List Nat) (i:Nat),(ints kd ns)[i]? =(ns[i]?).map fun n=>Value.int kd (.ofNat n)
 | [],i=>by cases i<;>rfl
 |n::ns,0=>rfl
 |_::ns,i+1=>ints_get (kd:=kd) ns i
theorem ints_len {kd:IntKind}: ∀ (ns:List Nat),(ints kd ns).length=ns.length
 | [] =>rfl
 |_::ns=>congrArg (· +1) (ints_len ns)
theorem row_cells {P:Program} {G:Nat} {ι:Emb} {m:Mem} {w:World} (hr:Rep P G ι m w) {k b:Nat} {c:Array Value} {e:TypeId} {fr:Nat × Nat} (hk:m.get k=some (.cells c e fr)) (hb:ι.b k=some b) {o n:Nat} (hn:o+n≤c.size) {kd:IntKind} {ns:List Nat} (hns: (c.toList.drop o).take n=ints kd ns):
  ∀ (i:Nat) (x:Nat),ns[i]? =some x→w.cell? ⟨b,o+i,none⟩=some (.int kd (.ofNat x)):=fun i x hx=>by
 obtain ⟨l,_,hl,hlen,hc⟩:=hr.load hk hb hn
 rw [hns] at hl
 have h1: (ints kd ns)[i]? =some (.int kd (.ofNat x)):=by rw [ints_get,hx];rfl
 have hi:i<l.length:=by
  have:=(List.getElem?_eq_some_iff.1 h1).1
  rw [←hl.1]
  exact this
 have h2:=hl.2 i _ _ h1 (List.getElem?_eq_getElem hi)
 have h3:=hc i _ (List.getElem?_eq_getElem hi)
 rw [VR.flatE (v:= .int kd (.ofNat x)) rfl h2] at h3
 have e: (⟨b,o,none⟩:Addr).add i=⟨b,o+i,none⟩:=by
  unfold Addr.add
  split
  ·rename_i hz;subst hz;rfl
  ·rfl
 rw [e] at h3
 exact h3
theorem xCrc_ok {P:Program} {C:Cfg} {f:FuncId} {args:List Value} {s s':AS} {v:Value} {g:Nat} {r:MR} (h1:r.kd= .u32) (h2:r.ns=hvs) (hg:g<C.G)
  (H: ∀ (A:Option Addr) (xs:List Nat) (c:Nat) (w:World),(∀x∈xs,x<256)→(0<xs.length→ ∃b o,A=some ⟨b,o,none⟩∧b<w.heap.size∧ ∀ (i x:Nat),xs[i]? =some x→w.cell? ⟨b,o+i,none⟩=some (.int .u8 (.ofNat x)))→
   (∀ (j x:Nat),hvs[j]? =some x→w.cell? ⟨g,j,none⟩=some (.int .u32 (.ofNat x)))→xs.length≤1000000→Calls P f #[.slice A xs.length c] w fun e w'=>e= .returned (.int .u32 (.ofNat (crcN xs)))∧w'=w)
  (h:xCrc g r args s=some (v,s')):AnsOk P C f args s v s':=by
 unfold xCrc at h
 split at h
 ·rename_i x n c
  cases h3:Nat.ble n 1000000 with
  |false=>rw [h3] at h;cases h
  |true=>
   rw [h3] at h
   cases h4:rowAt s g r with
   |false=>simp only [h4] at h;cases h
   |true=>
    simp only [h4] at h
    obtain ⟨⟨q,l⟩,h5,h6⟩:=orec h
    obtain ⟨ns,h7,h8⟩:=orec h6
    cases h8
    obtain ⟨h9,h10⟩:=newsK_ok h5
    cases h9
    obtain ⟨rfl,h11⟩:=natsOf_ok h7
    intro ι w args' hr ha
    obtain ⟨a,rfl⟩: ∃b,args'= [b] :=List.length_eq_one_iff.1 ha.1.symm
    have hv:=ha.2 0 _ _ rfl rfl
    have hrow:=rowAt_ok h4
    have htab: ∀ (j x:Nat),hvs[j]? =some x→w.cell? ⟨g,j,none⟩=some (.int .u32 (.ofNat x)):=fun j x hx=>by
     have:=row_cells hr (k:=g) (b:=g) (c:=⟨ints r.kd r.ns⟩) (e:=r.e) (fr:=(0,0)) hrow (hr.glob g hg) (o:=0) (n:=16) (kd:= .u32) (ns:=hvs) (by
      show 0+16≤ (ints r.kd r.ns).length
      rw [ints_len,h2]
      decide) (by rw [h1,h2];rfl) j x hx
     rw [Nat.zero_add] at this
     exact this
    have key: ∃A c',a= .slice A n c'∧ns.length=n∧(0<ns.length→ ∃b o,A=some ⟨b,o,none⟩∧b<w.heap.size∧ ∀ (i x:Nat),ns[i]? =some x→w.cell? ⟨b,o+i,none⟩=some (.int .u8 (.ofNat x))):=by
     unfold afirst at h10
     split at h10
     ·rename_i hn
      subst hn
      have hl:ns= [] :=by
       have: (ints .u8 ns).length=0:=by
        rw [←Option.some.inj (show some [] =some (ints .u8 ns) from h10)]
        rfl
       rw [ints_len] at this
       exact List.length_eq_zero_iff.1 this
      subst hl
      cases hv<;>exact ⟨_,_,rfl,rfl,fun h=>by cases h⟩
     ·rename_i hn
      split at h10
      ·rename_i k o sp len cc heq
       cases heq
       split at h10
       ·rename_i cs e fr hcs
        split at h10
        ·rename_i hq
         have hlen:ns.length=n:=by
          have: ((cs.toList.drop o).take (n*1)).length=n:=by
           rw [List.length_take,List.length_drop]
           have:=hq.2.1
           rw [Array.length_toList]
           omega
          injection h10 with h10
          rw [h10,ints_len] at this
          exact this
         injection h10 with h10
         have hob: ∃b,ι.b k=some b∧b<w.heap.size:=by
          obtain ⟨b,_,e1,_⟩:=hr.obj k _ hcs
          exact ⟨b,e1,hr.lt (k:=k) (by show s.h.get k≠none;rw [hcs];exact fun e=>by cases e) e1⟩
         obtain ⟨b,hb,hlt⟩:=hob
         have hcells:=row_cells hr (k:=k) hcs hb (o:=o) (n:=n*1) hq.2.1 h10
         cases hv with
         |slX _ _ hb2=>
          rw [hb] at hb2
          cases hb2
          exact ⟨_,_,rfl,hlen,fun _=>⟨b,o,rfl,hlt,hcells⟩⟩
         |slG _ _ hb2 hm9=>
          rw [hb] at hb2
          cases hb2
          exact ⟨_,_,rfl,hlen,fun _=>⟨b,o,rfl,hlt,hcells⟩⟩
         |slE _ _=>exact absurd rfl hn
         |slT=>exact absurd rfl hn
        ·cases h10
       ·cases h10
      ·rename_i heq;cases heq
      ·cases h10
    obtain ⟨A,c',rfl,hlen,hmem⟩:=key
    have:=H A ns c' w h11 hmem htab (by rw [hlen];exact Nat.le_of_ble_eq_true h3)
    rw [hlen] at this
    refine this.mono ?_
    rintro e w' ⟨rfl,rfl⟩
    exact ⟨ι,_,rfl,Tr.refl hr, .int _ _⟩
 ·cases h
end
end Go.Proofs.YtdcioacjhpnihaaGreatDoor
