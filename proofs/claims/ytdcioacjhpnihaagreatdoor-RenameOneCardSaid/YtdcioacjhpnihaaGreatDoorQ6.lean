/- The turbo run: steps, compiled; numbers. The turbo run: rows made, made longer, taken apart. The turbo run: literals, strings and bytes, comparisons, parts. The turbo run: calls of values, strings and bytes, slices; all operations, compiled. -/
import Derived.Test.YtdcioacjhpnihaaGreatDoorQ5
set_option linter.all false
namespace Go.Proofs.YtdcioacjhpnihaaGreatDoor
open Go
noncomputable section
inductive RW where
 |no
 |mk (t:EV) (s:AS)
abbrev WK:=Env→FCl→RND→EV→AS→RW
abbrev STEP:=WK→WK
def StepOk (E:Env) (σ:STEP) (p:WD) (o:Oper):Prop:= ∀ (k:WK) (cl:FCl) (rnd:RND) (t:EV) (s:AS) (t':EV) (s':AS),σ k E cl rnd t s= .mk t' s'→ ∃v s1,fxo E cl rnd (evW E.C t) o s=some (v,s1)∧k E cl rnd (dputW p v t) s1= .mk t' s'
theorem owrec {α:Type} {x:Option α} {f:α→RW} {t:EV} {s:AS} (h: (Option.rec (motive:=fun _=>RW) .no f x:RW)= .mk t s): ∃a,x=some a∧f a= .mk t s:=by
 cases x with
 |none=>cases h
 |some a=>exact ⟨a,rfl,h⟩
theorem bwrec {b:Bool} {r:RW} {t:EV} {s:AS} (h: (Bool.rec (motive:=fun _=>RW) .no r b:RW)= .mk t s):b=true∧r= .mk t s:=by
 cases b with
 |false=>cases h
 |true=>exact ⟨rfl,h⟩
def sAny (o:Oper) (p:WD):STEP:=fun k E cl rnd t s=>Option.rec (motive:=fun _=>RW) .no (fun r=>Prod.rec (motive:=fun _=>RW) (fun v s'=>k E cl rnd (dputW p v t) s') r) (fxo E cl rnd (evW (Env.C E) t) o s)
def sMv (a:WOp) (p:WD):STEP:=fun k E cl rnd t s=>k E cl rnd (dputW p (fget a t) t) s
def sP1 (f:Value→Option Value) (a:WOp) (p:WD) (o:Oper):STEP:=fun k E cl rnd t s=>Option.rec (motive:=fun _=>RW) (sAny o p k E cl rnd t s) (fun v=>k E cl rnd (dputW p v t) s) (f (fget a t))
def sP2 (f:Value→Value→Option Value) (a b:WOp) (p:WD) (o:Oper):STEP:=fun k E cl rnd t s=>Option.rec (motive:=fun _=>RW) (sAny o p k E cl rnd t s) (fun v=>k E cl rnd (dputW p v t) s) (f (fget a t) (fget b t))
def sM1 (f:AS→Value→Option Value) (a:WOp) (p:WD) (o:Oper):STEP:=fun k E cl rnd t s=>Option.rec (motive:=fun _=>RW) (sAny o p k E cl rnd t s) (fun v=>k E cl rnd (dputW p v t) s) (f s (fget a t))
def sSt (f:AS→Value→Value→Option AS) (a b:WOp) (p:WD) (o:Oper):STEP:=fun k E cl rnd t s=>Option.rec (motive:=fun _=>RW) (sAny o p k E cl rnd t s) (fun s'=>k E cl rnd (dputW p undef t) s') (f s (fget a t) (fget b t))
def sA1 (f:AS→Value→Option (Value × AS)) (a:WOp) (p:WD) (o:Oper):STEP:=fun k E cl rnd t s=>Option.rec (motive:=fun _=>RW) (sAny o p k E cl rnd t s) (fun r=>Prod.rec (motive:=fun _=>RW) (fun v s'=>k E cl rnd (dputW p v t) s') r) (f s (fget a t))
def sA2 (f:AS→Value→Value→Option (Value × AS)) (a b:WOp) (p:WD) (o:Oper):STEP:=fun k E cl rnd t s=>Option.rec (motive:=fun _=>RW) (sAny o p k E cl rnd t s) (fun r=>Prod.rec (motive:=fun _=>RW) (fun v s'=>k E cl rnd (dputW p v t) s') r) (f s (fget a t) (fget b t))
def sA0 (f:AS→Option (Value × AS)) (p:WD) (o:Oper):STEP:=fun k E cl rnd t s=>Option.rec (motive:=fun _=>RW) (sAny o p k E cl rnd t s) (fun r=>Prod.rec (motive:=fun _=>RW) (fun v s'=>k E cl rnd (dputW p v t) s') r) (f s)
def sPk (c a b:WOp) (p:WD) (o:Oper):STEP:=fun k E cl rnd t s=>Option.rec (motive:=fun _=>RW) (sAny o p k E cl rnd t s) (fun x=>k E cl rnd (dputW p (fget (Bool.rec (motive:=fun _=>WOp) b a x) t) t) s) (xBool (fget c t))
def fgets:List WOp→EV→List Value:=List.rec (motive:=fun _=>EV→List Value) (fun _=> []) (fun a _ ih t=>fget a t::ih t)
def sCs (f:FuncId) (args:List WOp) (p:WD):STEP:=fun k E cl rnd t s=>Option.rec (motive:=fun _=>RW) (Option.rec (motive:=fun _=>RW) .no (fun r=>Prod.rec (motive:=fun _=>RW) (fun v s'=>k E cl rnd (dputW p v t) s') r) (cl f (fgets args t) s)) (fun r=>Prod.rec (motive:=fun _=>RW) (fun v s'=>k E cl rnd (dputW p v t) s') r) (Env.rec (motive:=fun _=>FCl) (fun _ _ _ _ ext _=>ext) E f (fgets args t) s)
section
variable {E:Env} {o:Oper} {p:WD}
theorem okAny:StepOk E (sAny o p) p o:=fun k cl rnd t s t' s' h=>by
 obtain ⟨⟨v,s1⟩,h1,h2⟩:=owrec h
 exact ⟨v,s1,h1,h2⟩
theorem okMv {a:WOp} {x:Operand} (ha:cmpW E.C x=some a) (h: ∀u ev cl rnd s,ev x=some u→fxo E cl rnd ev o s=some (u,s)):StepOk E (sMv a p) p o:=fun k cl rnd t s t' s' hk=>
 ⟨_,s,h _ _ cl rnd s (cmpW_ok ha t),hk⟩
theorem ofrec {α:Type} {x:Option α} {f:α→RW} {r:RW} {t:EV} {s:AS} (h: (Option.rec (motive:=fun _=>RW) r f x:RW)= .mk t s): (∃a,x=some a∧f a= .mk t s)∨r= .mk t s:=by
 cases x with
 |none=>exact .inr h
 |some a=>exact .inl ⟨a,rfl,h⟩
theorem okP1 {f:Value→Option Value} {a:WOp} {x:Operand} (ha:cmpW E.C x=some a) (h: ∀u v ev cl rnd s,f u=some v→ev x=some u→fxo E cl rnd ev o s=some (v,s)):StepOk E (sP1 f a p o) p o:=fun k cl rnd t s t' s' hk=>by
 rcases ofrec hk with ⟨v,h1,h2⟩|h1
 ·exact ⟨v,s,h _ v _ cl rnd s h1 (cmpW_ok ha t),h2⟩
 ·exact okAny k cl rnd t s t' s' h1
theorem okP2 {f:Value→Value→Option Value} {a b:WOp} {x y:Operand} (ha:cmpW E.C x=some a) (hb:cmpW E.C y=some b) (h: ∀u w v ev cl rnd s,f u w=some v→ev x=some u→ev y=some w→fxo E cl rnd ev o s=some (v,s)):StepOk E (sP2 f a b p o) p o:=fun k cl rnd t s t' s' hk=>by
 rcases ofrec hk with ⟨v,h1,h2⟩|h1
 ·exact ⟨v,s,h _ _ v _ cl rnd s h1 (cmpW_ok ha t) (cmpW_ok hb t),h2⟩
 ·exact okAny k cl rnd t s t' s' h1
theorem okM1 {f:AS→Value→Option Value} {a:WOp} {x:Operand} (ha:cmpW E.C x=some a) (h: ∀u v ev cl rnd s,f s u=some v→ev x=some u→fxo E cl rnd ev o s=some (v,s)):StepOk E (sM1 f a p o) p o:=fun k cl rnd t s t' s' hk=>by
 rcases ofrec hk with ⟨v,h1,h2⟩|h1
 ·exact ⟨v,s,h _ v _ cl rnd s h1 (cmpW_ok ha t),h2⟩
 ·exact okAny k cl rnd t s t' s' h1
theorem okSt {f:AS→Value→Value→Option AS} {a b:WOp} {x y:Operand} (ha:cmpW E.C x=some a) (hb:cmpW E.C y=some b) (h: ∀u w ev cl rnd s s',f s u w=some s'→ev x=some u→ev y=some w→fxo E cl rnd ev o s=some (undef,s')):StepOk E (sSt f a b p o) p o:=fun k cl rnd t s t' s' hk=>by
 rcases ofrec hk with ⟨s1,h1,h2⟩|h1
 ·exact ⟨undef,s1,h _ _ _ cl rnd s s1 h1 (cmpW_ok ha t) (cmpW_ok hb t),h2⟩
 ·exact okAny k cl rnd t s t' s' h1
theorem okA0 {f:AS→Option (Value × AS)} (h: ∀r ev cl rnd s,f s=some r→fxo E cl rnd ev o s=some r):StepOk E (sA0 f p o) p o:=fun k cl rnd t s t' s' hk=>by
 rcases ofrec hk with ⟨⟨v,s1⟩,h1,h2⟩|h1
 ·exact ⟨v,s1,h _ _ cl rnd s h1,h2⟩
 ·exact okAny k cl rnd t s t' s' h1
theorem okA1 {f:AS→Value→Option (Value × AS)} {a:WOp} {x:Operand} (ha:cmpW E.C x=some a) (h: ∀u r ev cl rnd s,f s u=some r→ev x=some u→fxo E cl rnd ev o s=some r):StepOk E (sA1 f a p o) p o:=fun k cl rnd t s t' s' hk=>by
 rcases ofrec hk with ⟨⟨v,s1⟩,h1,h2⟩|h1
 ·exact ⟨v,s1,h _ _ _ cl rnd s h1 (cmpW_ok ha t),h2⟩
 ·exact okAny k cl rnd t s t' s' h1
theorem okA2 {f:AS→Value→Value→Option (Value × AS)} {a b:WOp} {x y:Operand} (ha:cmpW E.C x=some a) (hb:cmpW E.C y=some b) (h: ∀u w r ev cl rnd s,f s u w=some r→ev x=some u→ev y=some w→fxo E cl rnd ev o s=some r):StepOk E (sA2 f a b p o) p o:=fun k cl rnd t s t' s' hk=>by
 rcases ofrec hk with ⟨⟨v,s1⟩,h1,h2⟩|h1
 ·exact ⟨v,s1,h _ _ _ _ cl rnd s h1 (cmpW_ok ha t) (cmpW_ok hb t),h2⟩
 ·exact okAny k cl rnd t s t' s' h1
def cmpWs (C:Cfg):List Operand→Option (List WOp)
 | [] =>some []
 |x::l=>match cmpW C x,cmpWs C l with
  |some y,some r=>some (y::r)
  |_,_=>none
theorem cmpWs_ok {C:Cfg}: ∀ {l:List Operand} {r:List WOp},cmpWs C l=some r→ ∀t:EV,evs (evW C t) l=some (fgets r t)
 | [],r,h,t=>by cases h;rfl
 |x::l,r,h,t=>by
  unfold cmpWs at h
  split at h
  ·rename_i y q hy hq
   cases h
   unfold evs
   rw [cmpW_ok hy t,cmpWs_ok hq t]
   rfl
  ·cases h
theorem okPk {c x y:Operand} {a b d:WOp} {dst:Option Tmp} {ty:TypeId} {pos:String} {aft:Array Edge} {gd:Option (Nat × Bool)} (h1:cmpW E.C c=some a) (h2:cmpW E.C x=some b) (h3:cmpW E.C y=some d):StepOk E (sPk a b d p ⟨dst, .pick c x y,ty,pos,aft,gd⟩) p ⟨dst, .pick c x y,ty,pos,aft,gd⟩:=fun k cl rnd t s t' s' hk=>by
 rcases ofrec hk with ⟨q,h4,h5⟩|h4
 case inr=>exact okAny k cl rnd t s t' s' h4
 have hb:=xBool_ok h4
 refine ⟨_,s,?_,h5⟩
 simp only [fxo,fop,cmpW_ok h1 t,hb]
 cases q with
 |false=>simp only [e1,Bool.false_eq_true,if_false,cmpW_ok h3 t]
 |true=>simp only [e1,if_true,cmpW_ok h2 t]
theorem okCs {f:FuncId} {args:Array Operand} {ats:Array TypeId} {l:List WOp} {dst:Option Tmp} {ty:TypeId} {pos:String} {aft:Array Edge} {gd:Option (Nat × Bool)} (h1:cmpWs E.C args.toList=some l):StepOk E (sCs f l p) p ⟨dst, .call ⟨.value (.func f),args,ats⟩,ty,pos,aft,gd⟩:=fun k cl rnd t s t' s' hk=>by
 have e: (Env.rec (motive:=fun _=>FCl) (fun _ _ _ _ ext _=>ext) E f (fgets l t) s)=E.ext f (fgets l t) s:=by cases E;rfl
 have hk: (Option.rec (motive:=fun _=>RW) (Option.rec (motive:=fun _=>RW) .no (fun r=>Prod.rec (motive:=fun _=>RW) (fun v s'=>k E cl rnd (dputW p v t) s') r) (cl f (fgets l t) s)) (fun r=>Prod.rec (motive:=fun _=>RW) (fun v s'=>k E cl rnd (dputW p v t) s') r) (Env.rec (motive:=fun _=>FCl) (fun _ _ _ _ ext _=>ext) E f (fgets l t) s):RW)= .mk t' s':=hk
 rw [e] at hk
 have hx: ∀r,fxo E cl rnd (evW E.C t) ⟨dst, .call ⟨.value (.func f),args,ats⟩,ty,pos,aft,gd⟩ s=r↔ (match E.ext f (fgets l t) s with |some r=>some r |none=>cl f (fgets l t) s)=r:=fun r=>by
  simp only [fxo,evW,cmpWs_ok h1 t,List.append_nil,List.nil_append]
  exact Iff.rfl
 cases he:E.ext f (fgets l t) s with
 |some r=>
  rw [he] at hk
  obtain ⟨v,s1⟩:=r
  exact ⟨v,s1,(hx _).2 (by rw [he]),hk⟩
 |none=>
  rw [he] at hk
  obtain ⟨⟨v,s1⟩,h2,h3⟩:=owrec hk
  exact ⟨v,s1,(hx _).2 (by rw [he];exact h2),h3⟩
end
def xIntK (nn:RW) (k:IntKind→Nat→RW):Value→RW:=
 Value.rec (motive_1:=fun _=>RW) (motive_2:=fun _=>PUnit) (motive_3:=fun _=>PUnit) (fun _=>nn) (fun kd n=>Int.rec (motive:=fun _=>RW) (fun n=>k kd n) (fun _=>nn) n) (fun _ _=>nn) (fun _ _ _=>nn) (fun _=>nn)
  (fun _=>nn) (fun _ _ _=>nn) (fun _=>nn) (fun _=>nn) (fun _ _ _ _ _=>nn) nn (fun _ _ _=>nn) nn (fun _ _=>nn) (fun _ _=>nn) (fun _ _=>⟨⟩) ⟨⟩ (fun _ _ _ _=>⟨⟩)
theorem xIntK_ok {nn:RW} {k:IntKind→Nat→RW} {v:Value}: (∃kd n,v= .int kd (.ofNat n)∧xIntK nn k v=k kd n)∨xIntK nn k v=nn:=by
 cases v with
 |int kd m=>
  cases m with
  |ofNat n=>exact .inl ⟨kd,n,rfl,rfl⟩
  |negSucc n=>exact .inr rfl
 |_=>exact .inr rfl
abbrev CAR:=IntKind→Nat→Nat→(Value→RW)→RW
def kuns:IntKind→Bool:=IntKind.rec (motive:=fun _=>Bool) false false false false true true true true
def cutK (kd:IntKind) (n:Nat) (k:Value→RW):RW:=Bool.rec (motive:=fun _=>RW) (Bool.rec (motive:=fun _=>RW) .no (k (.int kd (.ofNat n))) (Nat.ble (Nat.succ n) (klim kd))) (k (.int kd (.ofNat (Nat.mod n (klim kd))))) (kuns kd)
theorem wrap_uns {kd:IntKind} (h:kuns kd=true) (n:Int):kd.wrap n=n% (klim kd:Int):=by
 cases kd<;>first | (cases h;done)| (unfold IntKind.wrap;simp [IntKind.bits,IntKind.signed,klim])
theorem cutK_ok {kd:IntKind} {n:Nat} {k:Value→RW} {t:EV} {s:AS} (h:cutK kd n k= .mk t s):k (.int kd (kd.wrap (.ofNat n)))= .mk t s:=by
 unfold cutK at h
 cases hu:kuns kd with
 |true=>
  rw [hu] at h
  rw [wrap_uns hu]
  exact h
 |false=>
  rw [hu] at h
  obtain ⟨h1,h2⟩:=bwrec h
  rw [wrap_nat (Nat.le_of_ble_eq_true h1)]
  exact h2
def aAdd:CAR:=fun kd m n k=>cutK kd (Nat.add m n) k
def aMul:CAR:=fun kd m n k=>cutK kd (Nat.mul m n) k
def aSub:CAR:=fun kd m n k=>Bool.rec (motive:=fun _=>RW) (Bool.rec (motive:=fun _=>RW) (Bool.rec (motive:=fun _=>RW) .no (k (.int kd (.negSucc (Nat.pred (Nat.sub n m))))) (Nat.ble (Nat.sub n m) (klim kd))) (k (.int kd (.ofNat (Nat.mod (Nat.sub (Nat.add m (klim kd)) (Nat.mod n (klim kd))) (klim kd))))) (kuns kd)) (cutK kd (Nat.sub m n) k) (Nat.ble n m)
def aQuo:CAR:=fun kd m n k=>Bool.rec (motive:=fun _=>RW) (cutK kd (Nat.div m n) k) .no (Nat.beq n 0)
def aRem:CAR:=fun kd m n k=>Bool.rec (motive:=fun _=>RW) (k (.int kd (.ofNat (Nat.mod m n)))) .no (Nat.beq n 0)
def kmod:IntKind→Nat:=IntKind.rec (motive:=fun _=>Nat) 256 65536 4294967296 18446744073709551616 256 65536 4294967296 18446744073709551616
def aAnd:CAR:=fun kd m n k=>cutK kd (Nat.land (Nat.mod m (kmod kd)) (Nat.mod n (kmod kd))) k
def aOr:CAR:=fun kd m n k=>cutK kd (Nat.lor (Nat.mod m (kmod kd)) (Nat.mod n (kmod kd))) k
def aXor:CAR:=fun kd m n k=>cutK kd (Nat.xor (Nat.mod m (kmod kd)) (Nat.mod n (kmod kd))) k
def aEq:CAR:=fun _ m n k=>k (.bool (Nat.beq m n))
def aNe:CAR:=fun _ m n k=>k (.bool (Bool.rec (motive:=fun _=>Bool) true false (Nat.beq m n)))
def aLt:CAR:=fun _ m n k=>k (.bool (Nat.ble (Nat.succ m) n))
def aLe:CAR:=fun _ m n k=>k (.bool (Nat.ble m n))
def aGt:CAR:=fun _ m n k=>k (.bool (Nat.ble (Nat.succ n) m))
def aGe:CAR:=fun _ m n k=>k (.bool (Nat.ble n m))
def CarOk (P:Program) (op:BinOp) (c:CAR):Prop:= ∀kd m n k t s,c kd m n k= .mk t s→ ∃v,(∀ (tt:TypeId) (x y:Operand),semP P (do eqGuard op tt x y (.int kd (.ofNat m)) (.int kd (.ofNat n));binOp op tt (.int kd (.ofNat m)) (.int kd (.ofNat n)))=some v)∧flat v=true∧k v= .mk t s
theorem carArith {P:Program} {op:BinOp} {c:CAR} {g:IntKind→Nat→Nat→Value} (hg: ∀kd m n,flat (g kd m n)=true) (h: ∀kd m n k t s,c kd m n k= .mk t s→(∀ (tt:TypeId) (x y:Operand),semP P (do eqGuard op tt x y (.int kd (.ofNat m)) (.int kd (.ofNat n));binOp op tt (.int kd (.ofNat m)) (.int kd (.ofNat n)))=some (g kd m n))∧k (g kd m n)= .mk t s):CarOk P op c:=fun kd m n k t s hk=>
 ⟨g kd m n,(h kd m n k t s hk).1,hg kd m n,(h kd m n k t s hk).2⟩
section
variable {P:Program}
theorem car_add:CarOk P .add aAdd:=carArith (g:=fun kd m n=> .int kd (kd.wrap (.ofNat (m+n)))) (fun _ _ _=>rfl) fun kd m n k t s h=>⟨fun tt x y=>by simp [eqGuard,binOp,Op.intArith];rfl,cutK_ok h⟩
theorem car_mul:CarOk P .mul aMul:=carArith (g:=fun kd m n=> .int kd (kd.wrap (.ofNat (m*n)))) (fun _ _ _=>rfl) fun kd m n k t s h=>⟨fun tt x y=>by simp [eqGuard,binOp,Op.intArith];rfl,cutK_ok h⟩
theorem klim_pos (kd:IntKind):0<klim kd:=by cases kd<;>decide
theorem car_sub:CarOk P .sub aSub:=carArith (g:=fun kd m n=> .int kd (kd.wrap ((m:Int) -n))) (fun _ _ _=>rfl) fun kd m n k t s h=>⟨fun tt x y=>by simp [eqGuard,binOp,Op.intArith];rfl,by
 unfold aSub at h
 cases hb:Nat.ble n m with
 |true=>
  rw [hb] at h
  have hle:=Nat.le_of_ble_eq_true hb
  have:=cutK_ok h
  rw [show ((m:Int) -n)=Int.ofNat (Nat.sub m n) from (Int.ofNat_sub hle).symm]
  exact this
 |false=>
  rw [hb] at h
  have hlt:m<n:=by
   rw [bleB] at hb
   simpa using hb
  cases hu:kuns kd with
  |true=>
   rw [hu] at h
   rw [wrap_uns hu]
   have hp:=klim_pos kd
   have e: ((m:Int) -n)% (klim kd:Int)=Int.ofNat (Nat.mod (Nat.sub (Nat.add m (klim kd)) (Nat.mod n (klim kd))) (klim kd)):=by
    have h1:n%klim kd<klim kd:=Nat.mod_lt _ hp
    have h2: (Nat.sub (Nat.add m (klim kd)) (Nat.mod n (klim kd)):Nat)=m+klim kd-n%klim kd:=rfl
    rw [h2]
    show _=(((m+klim kd-n%klim kd)%klim kd:Nat):Int)
    rw [Int.natCast_emod,Int.ofNat_sub (by omega)]
    simp only [Int.natCast_add,Int.natCast_emod]
    have h4: (m:Int)+ (klim kd:Int) - (n:Int)% (klim kd:Int)=((m:Int) -n)+ (klim kd:Int)* (1+ (n:Int)/ (klim kd:Int)):=by
     have h3:=Int.mul_ediv_add_emod (n:Int) (klim kd:Int)
     rw [Int.mul_add,Int.mul_one]
     omega
    rw [h4,Int.add_mul_emod_self_left]
   rw [e]
   exact h
  |false=>
   rw [hu] at h
   obtain ⟨h1,h2⟩:=bwrec h
   have hle:=Nat.le_of_ble_eq_true h1
   have hle:n-m≤klim kd:=hle
   have e: (m:Int) -n=Int.negSucc (Nat.pred (Nat.sub n m)):=by
    rw [Int.negSucc_eq]
    show (m:Int) -n= -(((n-m-1:Nat):Int)+1)
    omega
   rw [←e] at h2
   have hw:kd.wrap ((m:Int) -n)=(m:Int) -n:=by
    cases kd<;>first | (cases hu;done)| (simp only [klim] at hle;unfold IntKind.wrap;simp [IntKind.bits,IntKind.signed];omega)
   rw [hw]
   exact h2⟩
theorem car_quo:CarOk P .quo aQuo:=carArith (g:=fun kd m n=> .int kd (kd.wrap (.ofNat (m/n)))) (fun _ _ _=>rfl) fun kd m n k t s h=>by
 unfold aQuo at h
 cases hb:Nat.beq n 0 with
 |true=>rw [hb] at h;cases h
 |false=>
  rw [hb] at h
  have hn:n≠0:=fun e=>by subst e;cases hb
  refine ⟨fun tt x y=> ?_,cutK_ok h⟩
  have hn': ¬ ((Int.ofNat n)=0):=fun e=>hn (Int.ofNat.inj e)
  have: (Int.ofNat m).tdiv (Int.ofNat n)=Int.ofNat (m/n):=rfl
  simp only [eqGuard,binOp,Op.intDiv,hn',if_false,this]
  simp
  rfl
theorem car_rem:CarOk P .rem aRem:=carArith (g:=fun kd m n=> .int kd (.ofNat (m%n))) (fun _ _ _=>rfl) fun kd m n k t s h=>by
 unfold aRem at h
 cases hb:Nat.beq n 0 with
 |true=>rw [hb] at h;cases h
 |false=>
  rw [hb] at h
  have hn:n≠0:=fun e=>by subst e;cases hb
  refine ⟨fun tt x y=> ?_,h⟩
  have hn': ¬ ((Int.ofNat n)=0):=fun e=>hn (Int.ofNat.inj e)
  have: (Int.ofNat m).tmod (Int.ofNat n)=Int.ofNat (m%n):=rfl
  simp only [eqGuard,binOp,Op.intDiv,hn',if_false,this]
  simp
  rfl
theorem bv_toNat (kd:IntKind) (m:Nat): (BitVec.ofInt kd.bits (Int.ofNat m)).toNat=m%kmod kd:=by
 cases kd<;>simp [kmod,IntKind.bits] <;>omega
theorem car_and:CarOk P .and aAnd:=carArith (g:=fun kd m n=> .int kd (kd.wrap (.ofNat ((m%kmod kd)&&& (n%kmod kd))))) (fun _ _ _=>rfl) fun kd m n k t s h=>⟨fun tt x y=>by
 simp only [eqGuard,binOp,Op.intBits,BitVec.toNat_and,bv_toNat]
 simp
 rfl,cutK_ok h⟩
theorem car_or:CarOk P .or aOr:=carArith (g:=fun kd m n=> .int kd (kd.wrap (.ofNat ((m%kmod kd)||| (n%kmod kd))))) (fun _ _ _=>rfl) fun kd m n k t s h=>⟨fun tt x y=>by
 simp only [eqGuard,binOp,Op.intBits,BitVec.toNat_or,bv_toNat]
 simp
 rfl,cutK_ok h⟩
theorem car_xor:CarOk P .xor aXor:=carArith (g:=fun kd m n=> .int kd (kd.wrap (.ofNat ((m%kmod kd)^^^ (n%kmod kd))))) (fun _ _ _=>rfl) fun kd m n k t s h=>⟨fun tt x y=>by
 simp only [eqGuard,binOp,Op.intBits,BitVec.toNat_xor,bv_toNat]
 simp
 rfl,cutK_ok h⟩
theorem car_eq:CarOk P .eql aEq:=carArith (g:=fun _ m n=> .bool (Nat.beq m n)) (fun _ _ _=>rfl) fun kd m n k t s h=>⟨fun tt x y=>by
 have:=(fbin_ok (P:=P) (t:=tt) (x:=x) (y:=y) (nEq_ok kd m n _ rfl)).1
 exact this,h⟩
theorem car_ne:CarOk P .neq aNe:=carArith (g:=fun _ m n=> .bool (Bool.rec (motive:=fun _=>Bool) true false (Nat.beq m n))) (fun _ _ _=>rfl) fun kd m n k t s h=>⟨fun tt x y=>(fbin_ok (P:=P) (t:=tt) (x:=x) (y:=y) (nNe_ok kd m n _ rfl)).1,h⟩
theorem car_lt:CarOk P .lss aLt:=carArith (g:=fun _ m n=> .bool (Nat.ble (Nat.succ m) n)) (fun _ _ _=>rfl) fun kd m n k t s h=>⟨fun tt x y=>(fbin_ok (P:=P) (t:=tt) (x:=x) (y:=y) (nLt_ok kd m n _ rfl)).1,h⟩
theorem car_le:CarOk P .leq aLe:=carArith (g:=fun _ m n=> .bool (Nat.ble m n)) (fun _ _ _=>rfl) fun kd m n k t s h=>⟨fun tt x y=>(fbin_ok (P:=P) (t:=tt) (x:=x) (y:=y) (nLe_ok kd m n _ rfl)).1,h⟩
theorem car_gt:CarOk P .gtr aGt:=carArith (g:=fun _ m n=> .bool (Nat.ble (Nat.succ n) m)) (fun _ _ _=>rfl) fun kd m n k t s h=>⟨fun tt x y=>(fbin_ok (P:=P) (t:=tt) (x:=x) (y:=y) (nGt_ok kd m n _ rfl)).1,h⟩
theorem car_ge:CarOk P .geq aGe:=carArith (g:=fun _ m n=> .bool (Nat.ble n m)) (fun _ _ _=>rfl) fun kd m n k t s h=>⟨fun tt x y=>(fbin_ok (P:=P) (t:=tt) (x:=x) (y:=y) (nGe_ok kd m n _ rfl)).1,h⟩
end
def carOf (op:BinOp):Option CAR:=match op with
 | .add=>some aAdd
 | .sub=>some aSub
 | .mul=>some aMul
 | .quo=>some aQuo
 | .rem=>some aRem
 | .and=>some aAnd
 | .or=>some aOr
 | .xor=>some aXor
 | .eql=>some aEq
 | .neq=>some aNe
 | .lss=>some aLt
 | .leq=>some aLe
 | .gtr=>some aGt
 | .geq=>some aGe
 |_=>none
theorem carOf_ok {P:Program} {op:BinOp} {c:CAR} (h:carOf op=some c):CarOk P op c:=by
 cases op<;>cases h<;>first |exact car_add |exact car_sub |exact car_mul |exact car_quo |exact car_rem |exact car_and |exact car_or |exact car_xor |exact car_eq |exact car_ne |exact car_lt |exact car_le |exact car_gt |exact car_ge
def sBin (c:CAR) (a b:WOp) (p:WD) (fb:STEP):STEP:=fun k E cl rnd t s=>xIntK (fb k E cl rnd t s) (fun kd m=>xIntK (fb k E cl rnd t s) (fun kj n=>Bool.rec (motive:=fun _=>RW) (fb k E cl rnd t s) (c kd m n (fun v=>k E cl rnd (dputW p v t) s)) (Nat.beq (kidx kd) (kidx kj))) (fget b t)) (fget a t)
section
variable {E:Env} {p:WD} {dst:Option Tmp} {ty:TypeId} {pos:String} {aft:Array Edge} {gd:Option (Nat × Bool)}
theorem fop_int {P:Program} {C:Cfg} {ev:Operand→Option Value} {s:AS} {op:BinOp} {t yt:TypeId} {x y:Operand} {kd kj:IntKind} {m n:Int} {v:Value} (hx:ev x=some (.int kd m)) (hy:ev y=some (.int kj n))
  (h:semP P (do eqGuard op t x y (.int kd m) (.int kj n);binOp op t (.int kd m) (.int kj n))=some v) (hf:flat v=true):fop C P ev s ⟨dst, .binOp op t x y yt,ty,pos,aft,gd⟩=some (v,s):=by
 have hfl: ∀s:AS,eFlat none P s ev ⟨dst, .binOp op t x y yt,ty,pos,aft,gd⟩=some (v,s):=fun s=>by
  have hall: ((⟨dst, .binOp op t x y yt,ty,pos,aft,gd⟩:Oper).op.operands.toList.all (fun x=>match ev x with |some v=>flat v |none=>false))=true:=by
   simp [Op.operands,hx,hy,flat,flat1]
  have e:fflat P ev ⟨dst, .binOp op t x y yt,ty,pos,aft,gd⟩=some v:=by
   unfold fflat
   refine (if_pos hall).trans ?_
   have:semP P (execOp (fun x=>(ev x).getD undef) ⟨dst, .binOp op t x y yt,ty,pos,aft,gd⟩)=some (.value v):=by
    simp only [execOp,hx,hy,Option.getD_some]
    have key: ∀ (m:Sem Value),semP P m=some v→semP P (do pure (Next.value (←m)))=some (.value v):=by
     intro m
     induction m with
     |pure a=>intro h;cases h;rfl
     |program k ih=>intro h;exact ih P h
     |_=>intro h;cases h
    exact key _ h
   rw [this]
   simp only [hf,if_true]
  simp only [eFlat,e]
 simp only [fop,hx,hy]
 cases hb:fbin op (.int kd m) (.int kj n) with
 |some r=>
  have:=(fbin_ok (P:=P) (t:=t) (x:=x) (y:=y) hb).1
  rw [h] at this
  cases this
  rfl
 |none=>
  simp only
  have hz: ∀b,anil C t (.int kd m) (.int kj n)=some b→False:=fun b hb=>by unfold anil at hb;split at hb<;>first | (cases hb;done)|simp_all
  have hz':anil C t (.int kd m) (.int kj n)=none:=by
   cases hq:anil C t (.int kd m) (.int kj n) with
   |none=>rfl
   |some b=>exact (hz b hq).elim
  have hn: ∀f:Value→Value→Option Value,f (.int kd m) (.int kj n)=none→e2 ev x y f s=none:=fun f hf=>by unfold e2;rw [hx,hy];simp only [hf]
  rw [hn _ (fbin2_int hz')];exact hfl s
theorem okBin {op:BinOp} {c:CAR} (hc:CarOk E.P op c) {t0 yt:TypeId} {x y:Operand} {a b:WOp} (ha:cmpW E.C x=some a) (hb:cmpW E.C y=some b) {fb:STEP} (hfb:StepOk E fb p ⟨dst, .binOp op t0 x y yt,ty,pos,aft,gd⟩):StepOk E (sBin c a b p fb) p ⟨dst, .binOp op t0 x y yt,ty,pos,aft,gd⟩:=fun k cl rnd t s t' s' h=>by
 unfold sBin at h
 have hany:=hfb k cl rnd t s t' s'
 rcases xIntK_ok (nn:=fb k E cl rnd t s) (k:=fun kd m=>xIntK (fb k E cl rnd t s) (fun kj n=>Bool.rec (motive:=fun _=>RW) (fb k E cl rnd t s) (c kd m n (fun v=>k E cl rnd (dputW p v t) s)) (Nat.beq (kidx kd) (kidx kj))) (fget b t)) (v:=fget a t) with ⟨kd,m,h1,h2⟩|h2
 ·rw [h2] at h
  rcases xIntK_ok (nn:=fb k E cl rnd t s) (k:=fun kj n=>Bool.rec (motive:=fun _=>RW) (fb k E cl rnd t s) (c kd m n (fun v=>k E cl rnd (dputW p v t) s)) (Nat.beq (kidx kd) (kidx kj))) (v:=fget b t) with ⟨kj,n,h3,h4⟩|h4
  ·rw [h4] at h
   cases hq:Nat.beq (kidx kd) (kidx kj) with
   |false=>rw [hq] at h;exact hany h
   |true=>
    rw [hq] at h
    have:=kidx_inj hq
    subst this
    obtain ⟨v,h5,h6,h7⟩:=hc kd m n _ t' s' h
    refine ⟨v,s,?_,h7⟩
    have e1:=cmpW_ok ha t
    have e2:=cmpW_ok hb t
    rw [h1] at e1
    rw [h3] at e2
    exact fop_int e1 e2 (h5 t0 x y) h6
  ·rw [h4] at h
   exact hany h
 ·rw [h2] at h
  exact hany h
abbrev CSH:=IntKind→Nat→Nat→(Value→RW)→RW
def kbits:IntKind→Nat:=IntKind.rec (motive:=fun _=>Nat) 8 16 32 64 8 16 32 64
def nmin (a b:Nat):Nat:=Bool.rec (motive:=fun _=>Nat) b a (Nat.ble a b)
theorem nmin_eq (a b:Nat):nmin a b=min a b:=by
 unfold nmin
 cases h:Nat.ble a b with
 |true=>have:=Nat.le_of_ble_eq_true h;simp only;omega
 |false=>rw [bleB] at h;simp at h;simp only;omega
def aShr:CSH:=fun kd m n k=>k (.int kd (.ofNat (Nat.div m (Nat.pow 2 (nmin n (kbits kd))))))
def aShl:CSH:=fun kd m n k=>cutK kd (Nat.mul m (Nat.pow 2 (nmin n (kbits kd)))) k
def sShf (c:CSH) (a b:WOp) (p:WD) (o:Oper):STEP:=fun k E cl rnd t s=>xIntK (sAny o p k E cl rnd t s) (fun kd m=>xIntK (sAny o p k E cl rnd t s) (fun _ n=>c kd m n (fun v=>k E cl rnd (dputW p v t) s)) (fget b t)) (fget a t)
def CshOk (P:Program) (op:BinOp) (c:CSH):Prop:= ∀kd m n k t s,c kd m n k= .mk t s→ ∃v,(∀ (tt:TypeId) (x y:Operand) (kj:IntKind),semP P (do eqGuard op tt x y (.int kd (.ofNat m)) (.int kj (.ofNat n));binOp op tt (.int kd (.ofNat m)) (.int kj (.ofNat n)))=some v)∧flat v=true∧k v= .mk t s
theorem kbits_eq (kd:IntKind):kd.bits=kbits kd:=by cases kd<;>rfl
theorem car_shr {P:Program}:CshOk P .shr aShr:=fun kd m n k t s h=>by
 refine ⟨_,fun tt x y kj=> ?_,rfl,h⟩
 have h1: ¬ ((Int.ofNat n) <0):=by simp
 simp only [eqGuard,binOp,Op.shift,h1,if_false,kbits_eq]
 have: (Int.ofNat m).fdiv (2^min (Int.ofNat n).toNat (kbits kd))=Int.ofNat (Nat.div m (Nat.pow 2 (nmin n (kbits kd)))):=by
  rw [nmin_eq]
  have e: ((2:Int)^min (Int.ofNat n).toNat (kbits kd))=((2^min n (kbits kd):Nat):Int):=by simp
  rw [e]
  exact (Int.ofNat_fdiv m (2^min n (kbits kd))).symm
 rw [this]
 simp
 rfl
theorem car_shl {P:Program}:CshOk P .shl aShl:=fun kd m n k t s h=>by
 refine ⟨_,fun tt x y kj=> ?_,rfl,cutK_ok h⟩
 have h1: ¬ ((Int.ofNat n) <0):=by simp
 simp only [eqGuard,binOp,Op.shift,h1,if_false,kbits_eq]
 have: (Int.ofNat m)* (2^min (Int.ofNat n).toNat (kbits kd))=Int.ofNat (Nat.mul m (Nat.pow 2 (nmin n (kbits kd)))):=by
  rw [nmin_eq]
  have e: ((2:Int)^min (Int.ofNat n).toNat (kbits kd))=((2^min n (kbits kd):Nat):Int):=by simp
  rw [e]
  rfl
 rw [this]
 simp
 rfl
theorem okShf {op:BinOp} {c:CSH} (hc:CshOk E.P op c) {t0 yt:TypeId} {x y:Operand} {a b:WOp} (ha:cmpW E.C x=some a) (hb:cmpW E.C y=some b):StepOk E (sShf c a b p ⟨dst, .binOp op t0 x y yt,ty,pos,aft,gd⟩) p ⟨dst, .binOp op t0 x y yt,ty,pos,aft,gd⟩:=fun k cl rnd t s t' s' h=>by
 unfold sShf at h
 have hany:=okAny (E:=E) (o:=⟨dst, .binOp op t0 x y yt,ty,pos,aft,gd⟩) (p:=p) k cl rnd t s t' s'
 rcases xIntK_ok (nn:=sAny ⟨dst, .binOp op t0 x y yt,ty,pos,aft,gd⟩ p k E cl rnd t s) (k:=fun kd m=>xIntK (sAny ⟨dst, .binOp op t0 x y yt,ty,pos,aft,gd⟩ p k E cl rnd t s) (fun _ n=>c kd m n (fun v=>k E cl rnd (dputW p v t) s)) (fget b t)) (v:=fget a t) with ⟨kd,m,h1,h2⟩|h2
 ·rw [h2] at h
  rcases xIntK_ok (nn:=sAny ⟨dst, .binOp op t0 x y yt,ty,pos,aft,gd⟩ p k E cl rnd t s) (k:=fun _ n=>c kd m n (fun v=>k E cl rnd (dputW p v t) s)) (v:=fget b t) with ⟨kj,n,h3,h4⟩|h4
  ·rw [h4] at h
   obtain ⟨v,h5,h6,h7⟩:=hc kd m n _ t' s' h
   refine ⟨v,s,?_,h7⟩
   have e1:=cmpW_ok ha t
   have e2:=cmpW_ok hb t
   rw [h1] at e1
   rw [h3] at e2
   exact fop_int e1 e2 (h5 t0 x y kj) h6
  ·rw [h4] at h
   exact hany h
 ·rw [h2] at h
  exact hany h
end
end
end Go.Proofs.YtdcioacjhpnihaaGreatDoor
namespace Go.Proofs.YtdcioacjhpnihaaGreatDoor
open Go
noncomputable section
def cellsK (v:Value):List Value:=Option.rec (motive:=fun _=>List Value) [v] (fun l=>l) (xAgg v)
theorem cellsK_eq (v:Value):cellsK v=v.cells.toList:=by
 unfold cellsK
 cases v with
 |agg c=>exact arrL_eq c
 |_=>rfl
def newK (s:AS) (l:List Value) (e:TypeId) (k:Nat→Value):Option (Value × AS):=AS.rec (motive:=fun _=>Option (Value × AS)) (fun h n=>Bool.rec (motive:=fun _=>Option (Value × AS)) none (some (k n,⟨T.put 100000000 h n (some (.cells ⟨l⟩ e (0,0))),Nat.succ n⟩)) (Nat.ble (Nat.succ n) 100000000)) s
theorem newK_ok {s:AS} {l:List Value} {e:TypeId} {k:Nat→Value} {r:Value × AS} (h:newK s l e k=some r): ∃s',arow s e l.toArray=some (s.n,s')∧r=(k s.n,s'):=by
 cases s with
 |mk hh n=>
  have h': (Bool.rec (motive:=fun _=>Option (Value × AS)) none (some (k n,⟨T.put 100000000 hh n (some (.cells ⟨l⟩ e (0,0))),Nat.succ n⟩)) (Nat.ble (Nat.succ n) 100000000):Option (Value × AS))=some r:=h
  cases hb:Nat.ble (Nat.succ n) 100000000 with
  |false=>rw [hb] at h';cases h'
  |true=>
   rw [hb] at h'
   cases h'
   refine ⟨_,?_,rfl⟩
   unfold arow anew
   exact if_pos (Nat.le_of_ble_eq_true hb)
def ptrK (n:Nat):Value:= .pointer (some ⟨n,0,none⟩)
def boxK (t:TypeId) (s:AS) (v:Value):Option (Value × AS):=newK s (cellsK v) t ptrK
theorem boxK_ok {t:TypeId} {s:AS} {v:Value} {r:Value × AS} (h:boxK t s v=some r):abox s t v=some r:=by
 obtain ⟨s',h1,rfl⟩:=newK_ok h
 unfold abox
 have: (cellsK v).toArray=v.cells:=by rw [cellsK_eq,Array.toArray_toList]
 rw [this] at h1
 rw [h1]
 rfl
def allocK (t:TypeId) (z:List Value) (s:AS):Option (Value × AS):=newK s z t ptrK
theorem allocK_ok {C:Cfg} {t:TypeId} {zv:Value} {s:AS} {r:Value × AS} (hz:azero C t=some zv) (h:allocK t (cellsK zv) s=some r):aalloc C s t=some r:=by
 unfold aalloc
 rw [hz]
 exact boxK_ok h
def lbytes:List UInt8→List Value:=List.rec (motive:=fun _=>List Value) [] (fun b _ ih=> .int .u8 (.ofNat (UInt8.toNat b))::ih)
theorem lbytes_eq (b:ByteArray):lbytes b.data.toList=byteCells b:=by
 unfold byteCells
 generalize b.data.toList=l
 induction l with
 |nil=>rfl
 |cons x l ih=>exact congrArg (_:: ·) ih
def newsK (z:Nat) (s:AS) (v:Value):Option (Nat × List Value):=
 Value.rec (motive_1:=fun _=>Option (Nat × List Value)) (motive_2:=fun _=>PUnit) (motive_3:=fun _=>PUnit) (fun _=>none) (fun _ _=>none) (fun _ _=>none) (fun _ _ _=>none)
  (fun b=>ByteArray.rec (motive:=fun _=>Option (Nat × List Value)) (fun d=>Array.rec (motive:=fun _=>Option (Nat × List Value)) (fun l=>Bool.rec (motive:=fun _=>Option (Nat × List Value)) none (some (llen l,lbytes l)) (Nat.beq z 1)) d) b)
  (fun _=>none) (fun a n _=>Option.rec (motive:=fun _=>Option (Nat × List Value)) (Nat.rec (motive:=fun _=>Option (Nat × List Value)) (some (0, [])) (fun _ _=>none) n) (fun a=>Addr.rec (motive:=fun _=>Option (Nat × List Value)) (fun k o _=>
   Option.rec (motive:=fun _=>Option (Nat × List Value)) none (fun ob=>Option.rec (motive:=fun _=>Option (Nat × List Value)) none (fun x=>Prod.rec (motive:=fun _=>Option (Nat × List Value)) (fun l _=>Option.rec (motive:=fun _=>Option (Nat × List Value)) none (fun q=>Option.rec (motive:=fun _=>Option (Nat × List Value)) none (fun r=>Bool.rec (motive:=fun _=>Option (Nat × List Value)) none (some (n,r)) (oneAll r)) (ltake q (Nat.mul n z))) (ldrop l o)) x) (xCells ob)) (hget s k)) a) a)
  (fun _=>none) (fun _=>none) (fun _ _ _ _ _=>none) none (fun _ _ _=>none) none (fun _ _=>none) (fun _ _=>none) (fun _ _=>⟨⟩) ⟨⟩ (fun _ _ _ _=>⟨⟩) v
theorem newsK_ok {z:Nat} {s:AS} {v:Value} {n:Nat} {l:List Value} (h:newsK z s v=some (n,l)):lenV v=some n∧afirst s z n v=some l:=by
 cases v with
 |string b=>
  obtain ⟨⟨d⟩⟩:=b
  have h': (Bool.rec (motive:=fun _=>Option (Nat × List Value)) none (some (llen d,lbytes d)) (Nat.beq z 1):Option (Nat × List Value))=some (n,l):=h
  cases hb:Nat.beq z 1 with
  |false=>rw [hb] at h';cases h'
  |true=>
   rw [hb] at h'
   have hz:=Nat.eq_of_beq_eq_true hb
   cases h'
   have hbc:byteCells ⟨⟨d⟩⟩=lbytes d:=(lbytes_eq ⟨⟨d⟩⟩).symm
   have hlen: (byteCells ⟨⟨d⟩⟩).length=d.length:=by rw [byteCells_length];rfl
   refine ⟨by rw [llen_eq];rfl,?_⟩
   unfold afirst
   rw [llen_eq]
   by_cases h0:d.length=0
   ·rw [if_pos h0]
    have:d= [] :=List.eq_nil_of_length_eq_zero h0
    subst this
    rfl
   ·rw [if_neg h0]
    simp only
    rw [if_pos ⟨hz,Nat.le_refl _⟩, ←hbc,List.take_of_length_le (by rw [hlen];exact Nat.le_refl _)]
 |slice a m c=>
  cases a with
  |none=>
   cases m with
   |zero=>cases h;exact ⟨rfl,by unfold afirst;rw [if_pos rfl]⟩
   |succ m=>cases h
  |some a=>
   obtain ⟨k,o,sp⟩:=a
   obtain ⟨ob,h1,h2⟩:=orec (show (Option.rec (motive:=fun _=>Option (Nat × List Value)) none (fun ob=>Option.rec (motive:=fun _=>Option (Nat × List Value)) none (fun x=>Prod.rec (motive:=fun _=>Option (Nat × List Value)) (fun l _=>Option.rec (motive:=fun _=>Option (Nat × List Value)) none (fun q=>Option.rec (motive:=fun _=>Option (Nat × List Value)) none (fun r=>Bool.rec (motive:=fun _=>Option (Nat × List Value)) none (some (m,r)) (oneAll r)) (ltake q (Nat.mul m z))) (ldrop l o)) x) (xCells ob)) (hget s k):Option (Nat × List Value))=some (n,l) from h)
   obtain ⟨⟨cl,e⟩,h3,h4⟩:=orec h2
   obtain ⟨q,h5,h6⟩:=orec h4
   obtain ⟨r,h7,h8⟩:=orec h6
   cases hone:oneAll r with
   |false=>rw [hone] at h8;cases h8
   |true=>
    rw [hone] at h8
    cases h8
    obtain ⟨cs,fr,rfl,rfl⟩:=xCells_ok h3
    obtain ⟨a1,rfl⟩:=ldrop_eq _ _ h5
    obtain ⟨a2,rfl⟩:=ltake_eq _ _ h7
    rw [hget_eq] at h1
    refine ⟨rfl,?_⟩
    unfold afirst
    by_cases h0:n=0
    ·rw [if_pos h0]
     subst h0
     simp
    ·rw [if_neg h0]
     simp only [h1]
     have hmz:Nat.mul n z=n*z:=rfl
     rw [hmz] at a2 hone ⊢
     rw [if_pos ⟨Nat.le_refl _,by simp at a1 a2;omega,oneAll_ok hone⟩]
 |_=>cases h
def lapp2 {α:Type} (l r:List α):List α:=List.rec (motive:=fun _=>List α) r (fun x _ ih=>x::ih) l
theorem lapp2_eq {α:Type}: ∀ (l r:List α),lapp2 l r=l++r
 | [],_=>rfl
 |x::l,r=>congrArg (x:: ·) (lapp2_eq l r)
def slGK (need:Nat) (n:Nat):Value:= .slice (some ⟨n,0,some 0⟩) need need
def growK (e:TypeId) (s:AS) (olds news:List Value) (need:Nat):Option (Value × AS):=Bool.rec (motive:=fun _=>Option (Value × AS)) none (newK s (lapp2 olds news) e (slGK need)) (Nat.ble need 1048576)
def growFit (C:Cfg) (e:TypeId):Bool:=match C.tt.get e,azero C e with
 |some i,some zv=>decide (i.bytes≤1048576)&&decide (zv.cells.size=i.size)
 |_,_=>false
theorem growK_ok {C:Cfg} {e:TypeId} {s:AS} {olds news:List Value} {need:Nat} {r:Value × AS} (hf:growFit C e=true) (h:growK e s olds news need=some r):agrow C s e olds news need=some r:=by
 unfold growK at h
 cases hb:Nat.ble need 1048576 with
 |false=>rw [hb] at h;cases h
 |true=>
  rw [hb] at h
  obtain ⟨s',h1,rfl⟩:=newK_ok h
  unfold growFit at hf
  unfold agrow
  split at hf
  ·rename_i i zv hi hz
   simp only [Bool.and_eq_true,decide_eq_true_eq] at hf
   rw [hi,hz]
   simp only
   rw [if_pos ⟨Nat.le_of_ble_eq_true hb,hf.1,hf.2⟩]
   rw [lapp2_eq] at h1
   rw [h1]
   rfl
  ·cases hf
def roomK (s:AS) (k:Nat) (l:List Value) (e:TypeId) (at_:Nat) (news:List Value):Option AS:=Option.rec (motive:=fun _=>Option AS) none (fun q=>hput s k (.cells ⟨q⟩ e (0,0))) (lputs news l at_)
theorem lputs_eq {new l:List Value} {o:Nat} {q:List Value} (h:lputs new l o=some q):o+new.length≤l.length∧q=l.take o++new++l.drop (o+new.length):=by
 obtain ⟨a,h7,h8⟩:=orec h
 obtain ⟨b,h9,h10⟩:=orec h8
 obtain ⟨_,rfl⟩:=ltake_eq _ _ h7
 obtain ⟨b1,rfl⟩:=ldrop_eq _ _ h9
 cases h10
 rw [show Nat.add o (llen new)=o+llen new from rfl,llen_eq] at b1 ⊢
 refine ⟨b1,?_⟩
 rw [lapp,lappN_eq]
 simp
theorem roomK_ok {s s':AS} {k:Nat} {c:Array Value} {e:TypeId} {o:Nat} {news:List Value} (h:roomK s k c.toList e o news=some s'):o+news.length≤c.size∧aput s k (some (.cells (c.toList.take o++news++c.toList.drop (o+news.length)).toArray e (0,0)))=some s':=by
 obtain ⟨q,h1,h2⟩:=orec h
 obtain ⟨h3,rfl⟩:=lputs_eq h1
 exact ⟨by simpa using h3,hput_ok h2⟩
def dropK (r:Option (Value × AS)) (k:Nat):Option (Value × AS):=Option.rec (motive:=fun _=>Option (Value × AS)) none (fun x=>Prod.rec (motive:=fun _=>Option (Value × AS)) (fun v s=>AS.rec (motive:=fun _=>Option (Value × AS)) (fun h n=>Bool.rec (motive:=fun _=>Option (Value × AS)) none (some (v,⟨T.put 100000000 h k none,n⟩)) (Nat.ble (Nat.succ k) 100000000)) s) x) r
theorem dropK_ok {r:Option (Value × AS)} {k:Nat} {x:Value × AS} (h:dropK r k=some x): ∃v s s2,r=some (v,s)∧aput s k none=some s2∧x=(v,s2):=by
 obtain ⟨⟨v,s⟩,rfl,h2⟩:=orec h
 cases s with
 |mk hh n=>
  have h2: (Bool.rec (motive:=fun _=>Option (Value × AS)) none (some (v,(⟨T.put 100000000 hh k none,n⟩:AS))) (Nat.ble (Nat.succ k) 100000000):Option (Value × AS))=some x:=h2
  cases hb:Nat.ble (Nat.succ k) 100000000 with
  |false=>rw [hb] at h2;cases h2
  |true=>
   rw [hb] at h2
   cases h2
   refine ⟨v,_,_,rfl,?_,rfl⟩
   unfold aput
   exact if_pos (Nat.le_of_ble_eq_true hb)
def inK (s:AS) (k o:Nat) (sp:Option Nat) (len c z n:Nat) (l:List Value) (e:TypeId) (news:List Value):Option (Value × AS):=Option.rec (motive:=fun _=>Option (Value × AS)) none (fun s'=>some (.slice (some ⟨k,o,sp⟩) (Nat.add len n) c,s')) (roomK s k l e (Nat.add o (Nat.mul len z)) news)
def outK (e:TypeId) (s:AS) (o len z n:Nat) (l:List Value) (news:List Value):Option (Value × AS):=Option.rec (motive:=fun _=>Option (Value × AS)) none (fun q=>Option.rec (motive:=fun _=>Option (Value × AS)) none (fun r=>Bool.rec (motive:=fun _=>Option (Value × AS)) none (growK e s r news (Nat.add len n)) (oneAll r)) (ltake q (Nat.mul len z))) (ldrop l o)
def appB (e:TypeId) (z:Nat) (s:AS) (sv:Value) (n:Nat) (news:List Value):Option (Value × AS):=
 Value.rec (motive_1:=fun _=>Option (Value × AS)) (motive_2:=fun _=>PUnit) (motive_3:=fun _=>PUnit) (fun _=>none) (fun _ _=>none) (fun _ _=>none) (fun _ _ _=>none) (fun _=>none) (fun _=>none)
  (fun a len c=>Option.rec (motive:=fun _=>Option (Value × AS)) (Nat.rec (motive:=fun _=>Option (Value × AS)) (Nat.rec (motive:=fun _=>Option (Value × AS)) (Nat.rec (motive:=fun _=>Option (Value × AS)) (some (.slice none 0 0,s)) (fun _ _=>growK e s [] news n) n) (fun _ _=>none) c) (fun _ _=>none) len)
   (fun a=>Addr.rec (motive:=fun _=>Option (Value × AS)) (fun k o sp=>Option.rec (motive:=fun _=>Option (Value × AS)) none (fun ob=>Option.rec (motive:=fun _=>Option (Value × AS)) none (fun x=>Prod.rec (motive:=fun _=>Option (Value × AS)) (fun l e'=>
    Option.rec (motive:=fun _=>Option (Value × AS)) (Bool.rec (motive:=fun _=>Option (Value × AS)) (outK e s o len z n l news) (inK s k o none len c z n l e' news) (Nat.ble (Nat.add len n) c))
     (fun i=>Nat.rec (motive:=fun _=>Option (Value × AS)) (Bool.rec (motive:=fun _=>Option (Value × AS)) (Bool.rec (motive:=fun _=>Option (Value × AS)) none (Bool.rec (motive:=fun _=>Option (Value × AS)) none (Bool.rec (motive:=fun _=>Option (Value × AS)) none (dropK (outK e s o len z n l news) k) (Nat.beq (llen l) (Nat.mul c z))) (Nat.beq e' e)) (Nat.beq o 0)) (inK s k o (some 0) len c z n l e' news) (Nat.ble (Nat.add len n) c)) (fun _ _=>none) i) sp) x) (xCells ob)) (hget s k)) a) a)
  (fun _=>none) (fun _=>none) (fun _ _ _ _ _=>none) none (fun _ _ _=>none) none (fun _ _=>none) (fun _ _=>none) (fun _ _=>⟨⟩) ⟨⟩ (fun _ _ _ _=>⟨⟩) sv
theorem inK_ok {s:AS} {k o:Nat} {sp:Option Nat} {len c z n:Nat} {cs:Array Value} {e:TypeId} {news:List Value} {r:Value × AS} (h:inK s k o sp len c z n cs.toList e news=some r):
  o+len*z+news.length≤cs.size∧ ∃s',aput s k (some (.cells (cs.toList.take (o+len*z)++news++cs.toList.drop (o+len*z+news.length)).toArray e (0,0)))=some s'∧r=(.slice (some ⟨k,o,sp⟩) (len+n) c,s'):=by
 obtain ⟨s',h1,h2⟩:=orec h
 cases h2
 obtain ⟨h3,h4⟩:=roomK_ok h1
 exact ⟨h3,s',h4,rfl⟩
theorem outK_ok {C:Cfg} {e:TypeId} {s:AS} {o len z n c:Nat} {k:Nat} {sp:Option Nat} {cs:Array Value} {e':TypeId} {fr:Nat × Nat} {news:List Value} {r:Value × AS} (hf:growFit C e=true) (hg:s.h.get k=some (.cells cs e' fr)) (h:outK e s o len z n cs.toList news=some r):
  ∃olds,afirst s z len (.slice (some ⟨k,o,sp⟩) len c)=some olds∧agrow C s e olds news (len+n)=some r:=by
 obtain ⟨q,h1,h2⟩:=orec h
 obtain ⟨r',h3,h4⟩:=orec h2
 cases hone:oneAll r' with
 |false=>rw [hone] at h4;cases h4
 |true=>
  rw [hone] at h4
  obtain ⟨a1,rfl⟩:=ldrop_eq _ _ h1
  obtain ⟨a2,rfl⟩:=ltake_eq _ _ h3
  refine ⟨_,?_,growK_ok hf h4⟩
  unfold afirst
  have hmz:Nat.mul len z=len*z:=rfl
  rw [hmz] at a2 hone ⊢
  by_cases h0:len=0
  ·rw [if_pos h0]
   subst h0
   simp
  ·rw [if_neg h0]
   simp only [hg]
   rw [if_pos ⟨Nat.le_refl _,by simp at a1 a2;omega,oneAll_ok hone⟩]
set_option maxHeartbeats 1000000 in
theorem appB_ok {C:Cfg} {e:TypeId} {z:Nat} {s:AS} {sv:Value} {n:Nat} {news:List Value} {r:Value × AS} (hf:growFit C e=true) (hz:z<bigZ) (h:appB e z s sv n news=some r):aappB C s e z n news sv=some r:=by
 cases sv with
 |slice a len c=>
  cases a with
  |none=>
   cases len with
   |succ _=>cases h
   |zero=>
    cases c with
    |succ _=>cases h
    |zero=>
     unfold aappB
     simp only
     rw [if_neg (by omega)]
     unfold aappB0
     simp only
     cases n with
     |zero=>cases h;rw [if_pos rfl]
     |succ n=>
      rw [if_neg (Nat.succ_ne_zero n)]
      exact growK_ok hf h
  |some a=>
   obtain ⟨k,o,sp⟩:=a
   obtain ⟨ob,h1,h2⟩:=orec (show (Option.rec (motive:=fun _=>Option (Value × AS)) none (fun ob=>Option.rec (motive:=fun _=>Option (Value × AS)) none (fun x=>Prod.rec (motive:=fun _=>Option (Value × AS)) (fun l e'=>
    Option.rec (motive:=fun _=>Option (Value × AS)) (Bool.rec (motive:=fun _=>Option (Value × AS)) (outK e s o len z n l news) (inK s k o none len c z n l e' news) (Nat.ble (Nat.add len n) c))
     (fun i=>Nat.rec (motive:=fun _=>Option (Value × AS)) (Bool.rec (motive:=fun _=>Option (Value × AS)) (Bool.rec (motive:=fun _=>Option (Value × AS)) none (Bool.rec (motive:=fun _=>Option (Value × AS)) none (Bool.rec (motive:=fun _=>Option (Value × AS)) none (dropK (outK e s o len z n l news) k) (Nat.beq (llen l) (Nat.mul c z))) (Nat.beq e' e)) (Nat.beq o 0)) (inK s k o (some 0) len c z n l e' news) (Nat.ble (Nat.add len n) c)) (fun _ _=>none) i) sp) x) (xCells ob)) (hget s k):Option (Value × AS))=some r from h)
   obtain ⟨⟨l,e'⟩,h3,h4⟩:=orec h2
   obtain ⟨cs,fr,rfl,rfl⟩:=xCells_ok h3
   rw [hget_eq] at h1
   have hA:aappB C s e z n news (.slice (some ⟨k,o,sp⟩) len c)=aappB0 C s e z n news (.slice (some ⟨k,o,sp⟩) len c):=by
    unfold aappB
    simp only [h1]
   rw [hA]
   unfold aappB0
   cases sp with
   |none=>
    simp only at h4 ⊢
    rw [if_neg (by simp),h1]
    simp only
    cases hb:Nat.ble (Nat.add len n) c with
    |true=>
     rw [hb] at h4
     obtain ⟨h5,s',h6,rfl⟩:=inK_ok h4
     rw [if_pos (show len+n≤c from Nat.le_of_ble_eq_true hb),if_pos h5,h6]
    |false=>
     rw [hb] at h4
     have hle: ¬ (len+n≤c):=fun e=>by rw [bleB] at hb;simp at hb;omega
     obtain ⟨olds,h5,h6⟩:=outK_ok (c:=c) (sp:=none) hf h1 h4
     rw [if_neg hle,h5]
     exact h6
   |some i=>
    cases i with
    |succ _=>cases h4
    |zero=>
     simp only at h4 ⊢
     rw [if_neg (by simp),h1]
     simp only
     cases hb:Nat.ble (Nat.add len n) c with
     |true=>
      rw [hb] at h4
      obtain ⟨h5,s',h6,rfl⟩:=inK_ok h4
      rw [if_pos (show len+n≤c from Nat.le_of_ble_eq_true hb),if_pos h5,h6]
     |false=>
      rw [hb] at h4
      have hle: ¬ (len+n≤c):=fun e=>by rw [bleB] at hb;simp at hb;omega
      rw [if_neg hle]
      cases ho:Nat.beq o 0 with
      |false=>simp only [ho] at h4;cases h4
      |true=>
       cases hee:Nat.beq e' e with
       |false=>simp only [ho,hee] at h4;cases h4
       |true=>
        cases hll:Nat.beq (llen cs.toList) (Nat.mul c z) with
        |false=>simp only [ho,hee,hll] at h4;cases h4
        |true=>
         simp only [ho,hee,hll] at h4
         obtain ⟨v,s1,s2,h5,h6,rfl⟩:=dropK_ok h4
         obtain ⟨olds,h7,h8⟩:=outK_ok (c:=c) (sp:=some 0) hf h1 h5
         have e1:=Nat.eq_of_beq_eq_true ho
         have e2:=Nat.eq_of_beq_eq_true hee
         have e3:cs.size=c*z:=by have:=Nat.eq_of_beq_eq_true hll;rw [llen_eq] at this;simpa using this
         rw [h7]
         simp only
         rw [if_pos ⟨e1,e2,e3⟩,h8]
         simp only [h6]
 |_=>cases h
def appK (e:TypeId) (z:Nat) (s:AS) (sv xv:Value):Option (Value × AS):=Option.rec (motive:=fun _=>Option (Value × AS)) none (fun x=>Prod.rec (motive:=fun _=>Option (Value × AS)) (fun n news=>appB e z s sv n news) x) (newsK z s xv)
theorem appK_ok {C:Cfg} {t tx e:TypeId} {z:Nat} {d:TypeDesc} {s:AS} {sv xv:Value} {r:Value × AS} (ht:C.und t=some (.slice e)) (hx:C.und tx=some d) (hd:strOrSlice d=true) (hz:C.size e=some z) (hf:growFit C e=true) (hb:z<bigZ) (h:appK e z s sv xv=some r):aappend C s t tx sv xv=some r:=by
 obtain ⟨⟨n,news⟩,h1,h2⟩:=orec h
 obtain ⟨h3,h4⟩:=newsK_ok h1
 unfold aappend
 rw [ht,hx,h3]
 simp only [hd,if_true,hz,h4]
 exact aappB_U (appB_ok hf hb h2)
end
end Go.Proofs.YtdcioacjhpnihaaGreatDoor
namespace Go.Proofs.YtdcioacjhpnihaaGreatDoor
open Go
noncomputable section
def catK:List Nat→List Value→Option (List Value):=List.rec (motive:=fun _=>List Value→Option (List Value)) (fun vs=>List.rec (motive:=fun _=>Option (List Value)) (some []) (fun _ _ _=>none) vs)
 (fun n _ ih vs=>List.rec (motive:=fun _=>Option (List Value)) none (fun v r _=>Bool.rec (motive:=fun _=>Option (List Value)) none (Option.rec (motive:=fun _=>Option (List Value)) none (fun q=>some (lapp2 (cellsK v) q)) (ih r)) (Nat.beq (llen (cellsK v)) n)) vs)
theorem catK_ok: ∀ {ns:List Nat} {vs:List Value} {l:List Value},catK ns vs=some l→ns=vs.map (·.cells.size)∧l=vs.flatMap (fun v=>v.cells.toList)
 | [], [],l,h=>by cases h;exact ⟨rfl,rfl⟩
 | [],_::_,l,h=>by cases h
 |n::ns, [],l,h=>by cases h
 |n::ns,v::vs,l,h=>by
  have h': (Bool.rec (motive:=fun _=>Option (List Value)) none (Option.rec (motive:=fun _=>Option (List Value)) none (fun q=>some (lapp2 (cellsK v) q)) (catK ns vs)) (Nat.beq (llen (cellsK v)) n):Option (List Value))=some l:=h
  cases hb:Nat.beq (llen (cellsK v)) n with
  |false=>rw [hb] at h';cases h'
  |true=>
   rw [hb] at h'
   obtain ⟨q,h1,h2⟩:=orec h'
   cases h2
   obtain ⟨h3,rfl⟩:=catK_ok h1
   have:=Nat.eq_of_beq_eq_true hb
   rw [llen_eq,cellsK_eq] at this
   refine ⟨by rw [List.map_cons, ←h3, ←this];simp,?_⟩
   rw [lapp2_eq,cellsK_eq]
   simp [List.flatMap_cons]
theorem foldl_seg (v:List Value) (off:Nat): ∀ (k:Nat) (c:Array Value),off+k+v.length≤c.size→((v.zipIdx k).foldl (fun cs (x:Value × Nat)=>cs.setIfInBounds (off+x.2) x.1) c).toList=c.toList.take (off+k)++v++c.toList.drop (off+k+v.length):=by
 induction v with
 |nil=>intro k c _;simp
 |cons a l ih=>
  intro k c hc
  simp only [List.length_cons] at hc
  rw [List.zipIdx_cons,List.foldl_cons,ih (k+1) _ (by simp;omega)]
  have:=list_seg_step c.toList (off+k) a l (by simp;omega)
  rw [Array.toList_setIfInBounds]
  simpa [Nat.add_assoc] using this
theorem fill_cat (place:Nat→Option (Nat × Nat)): ∀ (parts:List (Nat × Value)) (off:Nat) (c:Array Value) (pre:List Value),c.toList.take off=pre→off+ ((parts.map (·.2)).flatMap fun v=>v.cells.toList).length=c.size→(∀ (i:Nat) (p:Nat × Value),parts[i]? =some p→place p.1=some (off+ (((parts.take i).map (·.2)).flatMap fun v=>v.cells.toList).length,p.2.cells.size))→
  Instr.fill place c parts=some (pre++ ((parts.map (·.2)).flatMap fun v=>v.cells.toList)).toArray
 | [],off,c,pre,hp,hs,_=>by
  simp at hs
  simp only [Instr.fill,List.map_nil,List.flatMap_nil,List.append_nil]
  rw [←hp,List.take_of_length_le (by simp [hs])]
 | (i,v)::parts,off,c,pre,hp,hs,hpl=>by
  have h0:=hpl 0 (i,v) rfl
  simp only [List.take_zero,List.map_nil,List.flatMap_nil,List.length_nil,Nat.add_zero] at h0
  simp only [List.map_cons,List.flatMap_cons,List.length_append,Array.length_toList] at hs
  simp only [Instr.fill,h0]
  rw [if_neg (by simp;omega)]
  have hseg:=foldl_seg v.cells.toList off 0 c (by simp;omega)
  have e:v.cells.zipIdx.foldl (fun cs (x:Value × Nat)=>cs.setIfInBounds (off+x.2) x.1) c=(c.toList.take off++v.cells.toList++c.toList.drop (off+v.cells.size)).toArray:=by
   apply Array.ext'
   rw [←Array.foldl_toList,Array.toList_zipIdx,hseg]
   simp
  have e2: (v.cells.zipIdx.foldl (fun cs x=>match x with | (c,j)=>cs.setIfInBounds (off+j) c) c)=(c.toList.take off++v.cells.toList++c.toList.drop (off+v.cells.size)).toArray:=e
  rw [e2]
  have hlen: (c.toList.take off).length=off:=by simp;omega
  have:=fill_cat place parts (off+v.cells.size) (c.toList.take off++v.cells.toList++c.toList.drop (off+v.cells.size)).toArray (pre++v.cells.toList) (by
    rw [List.toList_toArray,List.take_append_of_le_length (by simp [hlen]),List.take_of_length_le (by simp [hlen]),hp]) (by simp only [List.size_toArray,List.length_append,List.length_take,List.length_drop,Array.length_toList];omega) (fun j p hj=>by
    have:=hpl (j+1) p (by simpa using hj)
    rw [this]
    simp [Nat.add_assoc])
  rw [this]
  simp [List.append_assoc]
def inRow (place:Nat→Option (Nat × Nat)) (tot:Nat):List Nat→Nat→Option (List Nat)
 | [],off=>if off=tot then some [] else none
 |i::l,off=>match place i with
  |some (o,n)=>if o=off then (match inRow place tot l (off+n) with
   |some r=>some (n::r)
   |none=>none) else none
  |none=>none
theorem inRow_ok {place:Nat→Option (Nat × Nat)} {tot:Nat}: ∀ {is:List Nat} {off:Nat} {ns:List Nat},inRow place tot is off=some ns→ns.length=is.length∧off+ns.sum=tot∧ ∀ (j i:Nat),is[j]? =some i→ ∃n,ns[j]? =some n∧place i=some (off+ (ns.take j).sum,n)
 | [],off,ns,h=>by
  unfold inRow at h
  split at h
  ·rename_i e;cases h;exact ⟨rfl,by simpa using e,fun j i hj=>by simp at hj⟩
  ·cases h
 |i::l,off,ns,h=>by
  unfold inRow at h
  split at h
  ·rename_i o n hp
   split at h
   ·rename_i ho
    split at h
    ·rename_i r hr
     cases h
     subst ho
     obtain ⟨h1,h2,h3⟩:=inRow_ok hr
     refine ⟨by simp [h1],by simp only [List.sum_cons];omega,fun j i' hj=> ?_⟩
     cases j with
     |zero=>simp at hj;subst hj;exact ⟨n,rfl,by simpa using hp⟩
     |succ j=>
      obtain ⟨m,h4,h5⟩:=h3 j i' (by simpa using hj)
      exact ⟨m,by simpa using h4,by rw [h5];simp [Nat.add_assoc]⟩
    ·cases h
   ·cases h
  ·cases h
theorem flat_len (vs:List Value): (vs.flatMap fun v=>v.cells.toList).length=(vs.map (·.cells.size)).sum:=by
 induction vs with
 |nil=>rfl
 |cons v vs ih=>simp [ih]
theorem fill_row {place:Nat→Option (Nat × Nat)} {c:Array Value} {is:List Nat} {vs:List Value} {ns:List Nat} {l:List Value} (h:inRow place c.size is 0=some ns) (hl:is.length=vs.length) (hc:catK ns vs=some l):Instr.fill place c (is.zip vs)=some l.toArray:=by
 obtain ⟨h1,h2,h3⟩:=inRow_ok h
 obtain ⟨h4,rfl⟩:=catK_ok hc
 have hm: (is.zip vs).map (·.2)=vs:=by rw [List.map_snd_zip (by omega)]
 have:=fill_cat place (is.zip vs) 0 c [] (by simp) (by rw [hm,flat_len, ←h4];omega) (fun j p hj=>by
  obtain ⟨q1,q2⟩:=List.getElem?_zip_eq_some.1 hj
  obtain ⟨n,h5,h6⟩:=h3 j p.1 q1
  rw [h6]
  have:n=p.2.cells.size:=by rw [h4,List.getElem?_map,q2] at h5;simpa using h5.symm
  rw [this]
  have e: ((is.zip vs).take j).map (·.2)=vs.take j:=by rw [List.map_take,hm]
  rw [e,flat_len,h4,List.map_take])
 rw [this,hm]
 simp
theorem eparts_zip {C:Cfg} {t:EV}: ∀ {ps:List (Nat × Operand)} {l:List WOp},cmpWs C (ps.map (·.2))=some l→eparts (evW C t) ps=some ((ps.map (·.1)).zip (fgets l t))
 | [],l,h=>by cases h;rfl
 |x::ps,l,h=>by
  simp only [List.map_cons] at h
  unfold cmpWs at h
  split at h
  ·rename_i y r hy hr
   cases h
   unfold eparts
   rw [cmpW_ok hy t,eparts_zip hr]
   rfl
  ·cases h
theorem fgets_len {C:Cfg} {t:EV}: ∀ {xs:List Operand} {l:List WOp},cmpWs C xs=some l→(fgets l t).length=xs.length
 | [],l,h=>by cases h;rfl
 |x::xs,l,h=>by
  unfold cmpWs at h
  split at h
  ·rename_i y r hy hr
   cases h
   show (fget y t::fgets r t).length=_
   simp [fgets_len (t:=t) hr]
  ·cases h
def sBuild (ns:List Nat) (l:List WOp) (p:WD) (o:Oper):STEP:=fun k E cl rnd t s=>Option.rec (motive:=fun _=>RW) (sAny o p k E cl rnd t s) (fun c=>k E cl rnd (dputW p (.agg ⟨c⟩) t) s) (catK ns (fgets l t))
def bPlaces (C:Cfg) (P:Program) (t:TypeId) (is:List Nat):Option (List Nat):=match azero C t,C.und t with
 |some z,some (.struct fs)=>match semP P (fs.mapM fun f=>do pure (f.offset, ←sizeOf f.type)) with
  |some pl=>inRow (pl[·]?) z.cells.size is 0
  |none=>none
 |some z,some (.array _ e)=>match C.size e with
  |some sz=>inRow (fun i=>some (i*sz,sz)) z.cells.size is 0
  |none=>none
 |_,_=>none
theorem bPlaces_ok {C:Cfg} {P:Program} {t:TypeId} {is:List Nat} {ns:List Nat} {vs:List Value} {l:List Value} (h:bPlaces C P t is=some ns) (hl:is.length=vs.length) (hc:catK ns vs=some l):abuild C P t (is.zip vs)=some (.agg l.toArray):=by
 unfold bPlaces at h
 unfold abuild
 split at h
 ·rename_i z fs hz hd
  split at h
  ·rename_i pl hpl
   rw [hz,hd]
   simp only [hpl,fill_row h hl hc]
  ·cases h
 ·rename_i z n e hz hd
  split at h
  ·rename_i sz hsz
   rw [hz,hd]
   simp only [hsz,fill_row h hl hc]
  ·cases h
 ·cases h
section
variable {E:Env} {p:WD} {dst:Option Tmp} {ty:TypeId} {pos:String} {aft:Array Edge} {gd:Option (Nat × Bool)}
theorem okBuild {t0:TypeId} {ps:Array (Nat × Operand)} {ns:List Nat} {l:List WOp} (h1:cmpWs E.C (ps.toList.map (·.2))=some l) (h2:bPlaces E.C E.P t0 (ps.toList.map (·.1))=some ns):StepOk E (sBuild ns l p ⟨dst, .build t0 ps,ty,pos,aft,gd⟩) p ⟨dst, .build t0 ps,ty,pos,aft,gd⟩:=fun k cl rnd t s t' s' hk=>by
 rcases ofrec hk with ⟨c,h3,h4⟩|h3
 ·refine ⟨_,s,?_,h4⟩
  have h5:=bPlaces_ok h2 (by rw [fgets_len (t:=t) h1];simp) h3
  simp only [fxo,fop,eparts_zip (t:=t) h1,h5]
 ·exact okAny k cl rnd t s t' s' h3
def sBS (e:TypeId) (len:Nat) (ns:List Nat) (l:List WOp) (p:WD) (o:Oper):STEP:=fun k E cl rnd t s=>Option.rec (motive:=fun _=>RW) (sAny o p k E cl rnd t s) (fun r=>Prod.rec (motive:=fun _=>RW) (fun v s'=>k E cl rnd (dputW p v t) s') r)
 (Option.rec (motive:=fun _=>Option (Value × AS)) none (fun c=>newK s c e (fun n=> .slice (some ⟨n,0,none⟩) len len)) (catK ns (fgets l t)))
theorem zrow_flat {zv:Value} {z:Nat} (hz:zv.cells.size=z) (h0:0<z) (hf:zv.cells.toList.all flat1=true) (n:Nat): (zrow zv (n*z)).all flat1=true:=by
 rw [←Array.all_toList,zrow_chunks hz h0 n]
 refine List.all_eq_true.2 fun v hv=> ?_
 obtain ⟨u,hu,hvu⟩:=List.mem_flatMap.1 hv
 rw [List.eq_of_mem_replicate hu] at hvu
 exact List.all_eq_true.1 hf v hvu
theorem zrow_size (zv:Value) (n:Nat): (zrow zv n).size=n:=by simp [zrow]
def bsPlaces (C:Cfg) (t:TypeId) (len:Nat) (is:List Nat):Option (TypeId × List Nat):=match C.und t with
 |some (.slice e)=>match C.size e,azero C e with
  |some z,some zv=>if len*z≤1048576∧0<z∧zv.cells.size=z∧zv.cells.toList.all flat1=true then (match inRow (fun i=>some (i*z,z)) (len*z) is 0 with
   |some ns=>some (e,ns)
   |none=>none) else none
  |_,_=>none
 |_=>none
theorem okBS {t0 e:TypeId} {len:Nat} {ps:Array (Nat × Operand)} {ns:List Nat} {l:List WOp} (h1:cmpWs E.C (ps.toList.map (·.2))=some l) (h2:bsPlaces E.C t0 len (ps.toList.map (·.1))=some (e,ns)):StepOk E (sBS e len ns l p ⟨dst, .buildSlice t0 len ps,ty,pos,aft,gd⟩) p ⟨dst, .buildSlice t0 len ps,ty,pos,aft,gd⟩:=fun k cl rnd t s t' s' hk=>by
 rcases ofrec hk with ⟨⟨v,s1⟩,h3,h4⟩|h3
 ·refine ⟨v,s1,?_,h4⟩
  obtain ⟨c,h5,h6⟩:=orec h3
  obtain ⟨s2,h7,h8⟩:=newK_ok h6
  cases h8
  simp only [fxo,fop,eparts_zip (t:=t) h1]
  unfold bsPlaces at h2
  split at h2
  ·rename_i e0 hd
   split at h2
   ·rename_i z zv hz hzv
    split at h2
    ·rename_i hq
     split at h2
     ·rename_i ns0 hin
      cases h2
      have hin':inRow (fun i=>some (i*z,z)) (zrow zv (len*z)).size (ps.toList.map (·.1)) 0=some ns:=by rw [zrow_size];exact hin
      have h9:=fill_row hin' (by rw [fgets_len (t:=t) h1];simp) h5
      simp only [abuildS,hd,hz,hzv]
      rw [if_pos ⟨hq.1,zrow_flat hq.2.2.1 hq.2.1 hq.2.2.2 len⟩,h9]
      simp only [h7]
     ·cases h2
    ·cases h2
   ·cases h2
  ·cases h2
 ·exact okAny k cl rnd t s t' s' h3
def sMf (f:FuncId) (b l:List WOp) (p:WD):STEP:=fun k E cl rnd t s=>k E cl rnd (dputW p (.func (.func f) ⟨fgets b t⟩ ⟨fgets l t⟩) t) s
theorem okMf {f:FuncId} {fs xs:Array Operand} {b l:List WOp} (h1:cmpWs E.C fs.toList=some b) (h2:cmpWs E.C xs.toList=some l):StepOk E (sMf f b l p) p ⟨dst, .makeFunc (.func f) fs xs,ty,pos,aft,gd⟩:=fun k cl rnd t s t' s' hk=>by
 refine ⟨_,s,?_,hk⟩
 simp only [fxo,fop,cmpWs_ok h1 t,cmpWs_ok h2 t]
inductive FV where
 |no
 |fn (f:FuncId) (b l:List Value)
 |yld (l:Nat)
def xFun:Value→FV:=
 Value.rec (motive_1:=fun _=>FV) (motive_2:=fun _=>PUnit) (motive_3:=fun _=>PUnit) (fun _=> .no) (fun _ _=> .no) (fun _ _=> .no) (fun _ _ _=> .no) (fun _=> .no)
  (fun _=> .no) (fun _ _ _=> .no) (fun _=> .no) (fun _=> .no) (fun fn b c _ _=>Fn.rec (motive:=fun _=>FV) (fun f=> .fn f (arrL b) (arrL c)) (fun _=> .no) (fun _ _=> .no) (fun _ _ _ _=> .no) (fun l=> .yld l) fn) .no (fun _ _ _=> .no) .no (fun _ _=> .no) (fun _ _=> .no) (fun _ _=>⟨⟩) ⟨⟩ (fun _ _ _ _=>⟨⟩)
end
end
end Go.Proofs.YtdcioacjhpnihaaGreatDoor
namespace Go.Proofs.YtdcioacjhpnihaaGreatDoor
open Go
noncomputable section
section
variable {E:Env} {p:WD} {dst:Option Tmp} {ty:TypeId} {pos:String} {aft:Array Edge} {gd:Option (Nat × Bool)}
theorem xFun_fn {v:Value} {f:FuncId} {b l:List Value} (h:xFun v= .fn f b l): ∃fs cap,v= .func (.func f) fs cap∧b=fs.toList∧l=cap.toList:=by
 cases v with
 |func fn fs cap=>
  cases fn with
  |func g=>cases h;exact ⟨fs,cap,rfl,arrL_eq _,arrL_eq _⟩
  |_=>cases h
 |_=>cases h
theorem xFun_yld {v:Value} {l:Nat} (h:xFun v= .yld l): ∃fs cap,v= .func (.yield l) fs cap:=by
 cases v with
 |func fn fs cap=>
  cases fn with
  |yield g=>cases h;exact ⟨fs,cap,rfl⟩
  |_=>cases h
 |_=>cases h
def sDy (a:WOp) (args:List WOp) (p:WD) (o:Oper):STEP:=fun k E cl rnd t s=>FV.rec (motive:=fun _=>RW) (sAny o p k E cl rnd t s)
 (fun f b l=>Option.rec (motive:=fun _=>RW) (Option.rec (motive:=fun _=>RW) .no (fun r=>Prod.rec (motive:=fun _=>RW) (fun v s'=>k E cl rnd (dputW p v t) s') r) (cl f (lapp2 (lapp2 b (fgets args t)) l) s)) (fun r=>Prod.rec (motive:=fun _=>RW) (fun v s'=>k E cl rnd (dputW p v t) s') r) (Env.rec (motive:=fun _=>FCl) (fun _ _ _ _ ext _=>ext) E f (lapp2 (lapp2 b (fgets args t)) l) s))
 (fun l=>Option.rec (motive:=fun _=>RW) .no (fun r=>Prod.rec (motive:=fun _=>RW) (fun v s'=>k E cl rnd (dputW p v t) s') r) (rnd l (fgets args t) s)) (xFun (fget a t))
theorem okDy {x:Operand} {args:Array Operand} {ats:Array TypeId} {a:WOp} {l:List WOp} (ha:cmpW E.C x=some a) (h1:cmpWs E.C args.toList=some l):StepOk E (sDy a l p ⟨dst, .call ⟨.value x,args,ats⟩,ty,pos,aft,gd⟩) p ⟨dst, .call ⟨.value x,args,ats⟩,ty,pos,aft,gd⟩:=fun k cl rnd t s t' s' hk=>by
 unfold sDy at hk
 have e: ∀f vs,(Env.rec (motive:=fun _=>FCl) (fun _ _ _ _ ext _=>ext) E f vs s)=E.ext f vs s:=fun f vs=>by cases E;rfl
 have hx:=cmpW_ok ha t
 cases hf:xFun (fget a t) with
 |no=>rw [hf] at hk;exact okAny k cl rnd t s t' s' hk
 |yld y=>
  rw [hf] at hk
  obtain ⟨fs,cap,hv⟩:=xFun_yld hf
  obtain ⟨⟨v,s1⟩,h2,h3⟩:=owrec hk
  refine ⟨v,s1,?_,h3⟩
  rw [hv] at hx
  simp only [fxo,hx,cmpWs_ok h1 t]
  exact h2
 |fn f b c=>
  rw [hf] at hk
  obtain ⟨fs,cap,hv,rfl,rfl⟩:=xFun_fn hf
  rw [hv] at hx
  simp only [lapp2_eq] at hk
  have hfx:fxo E cl rnd (evW E.C t) ⟨dst, .call ⟨.value x,args,ats⟩,ty,pos,aft,gd⟩ s=(match E.ext f (fs.toList++fgets l t++cap.toList) s with |some r=>some r |none=>cl f (fs.toList++fgets l t++cap.toList) s):=by
   simp only [fxo,hx,cmpWs_ok h1 t]
   rfl
  cases he:E.ext f (fs.toList++fgets l t++cap.toList) s with
  |some r=>
   rw [he] at hk
   obtain ⟨v,s1⟩:=r
   exact ⟨v,s1,hfx.trans (by rw [he]),hk⟩
  |none=>
   rw [he] at hk
   obtain ⟨⟨v,s1⟩,h2,h3⟩:=owrec hk
   exact ⟨v,s1,hfx.trans (by rw [he];exact h2),h3⟩
end
def lu8:List Value→Option (List UInt8):=List.rec (motive:=fun _=>Option (List UInt8)) (some []) (fun v _ ih=>IV.rec (motive:=fun _=>Option (List UInt8)) none (fun kd n=>Bool.rec (motive:=fun _=>Option (List UInt8)) none (Option.rec (motive:=fun _=>Option (List UInt8)) none (fun r=>some (UInt8.ofNat n::r)) ih) (Nat.beq (kidx kd) 4)) (xInt v))
theorem pushAll_eq (ns:List Int):pushAll ns=⟨(ns.map fun n=>UInt8.ofNat n.toNat).toArray⟩:=by
 have key: ∀ (ns:List Int) (a:ByteArray),(ns.foldl (fun r n=>r.push (UInt8.ofNat n.toNat)) a).data.toList=a.data.toList++ns.map fun n=>UInt8.ofNat n.toNat:=by
  intro ns
  induction ns with
  |nil=>intro a;simp
  |cons n ns ih=>intro a;rw [List.foldl_cons,ih];simp [ByteArray.push]
 unfold pushAll
 apply ByteArray.ext
 apply Array.ext'
 rw [key]
 rfl
theorem lu8_ok: ∀ {l:List Value} {r:List UInt8},lu8 l=some r→ ∃ns,intsOf l=some ns∧pushAll ns=⟨⟨r⟩⟩
 | [],r,h=>by cases h;exact ⟨[],rfl,by rw [pushAll_eq];rfl⟩
 |v::l,r,h=>by
  have h': (IV.rec (motive:=fun _=>Option (List UInt8)) none (fun kd n=>Bool.rec (motive:=fun _=>Option (List UInt8)) none (Option.rec (motive:=fun _=>Option (List UInt8)) none (fun r=>some (UInt8.ofNat n::r)) (lu8 l)) (Nat.beq (kidx kd) 4)) (xInt v):Option (List UInt8))=some r:=h
  cases hx:xInt v with
  |no=>rw [hx] at h';cases h'
  |nat kd n=>
   simp only [hx] at h'
   cases hb:Nat.beq (kidx kd) 4 with
   |false=>simp only [hb] at h';cases h'
   |true=>
    simp only [hb] at h'
    obtain ⟨q,h1,h2⟩:=orec h'
    cases h2
    obtain ⟨ns,h3,h4⟩:=lu8_ok h1
    have hkd:kd= .u8:=by cases kd<;>first |rfl |cases hb
    subst hkd
    rw [xInt_ok hx]
    refine ⟨.ofNat n::ns,by simp only [intsOf,h3],?_⟩
    rw [pushAll_eq] at h4 ⊢
    have h5:=congrArg (fun b:ByteArray=>b.data.toList) h4
    simp only at h5
    apply ByteArray.ext
    apply Array.ext'
    simp only [List.map_cons]
    rw [h5]
    rfl
def strK (s:AS) (v:Value):Option Value:=Option.rec (motive:=fun _=>Option Value) none (fun x=>Prod.rec (motive:=fun _=>Option Value) (fun _ l=>Option.rec (motive:=fun _=>Option Value) none (fun r=>some (.string ⟨⟨r⟩⟩)) (lu8 l)) x) (newsK 1 s v)
theorem strK_ok {C:Cfg} {s:AS} {src d e:TypeId} {u v:Value} (hs:C.und src=some (.slice e)) (hd:C.und d=some .string) (he:C.und e=some (.int .u8)) (hu: ∀b,u≠ .string b) (h:strK s u=some v):abytes C s src d u=some v:=by
 obtain ⟨⟨n,l⟩,h1,h2⟩:=orec h
 obtain ⟨r,h3,h4⟩:=orec h2
 cases h4
 obtain ⟨h5,h6⟩:=newsK_ok h1
 obtain ⟨ns,h7,h8⟩:=lu8_ok h3
 unfold abytes
 rw [hs,hd]
 simp only [he]
 cases u with
 |string b=>exact absurd rfl (hu b)
 |slice a m c=>
  cases h5
  split
  ·rename_i heq
   cases heq
   unfold afirst at h6
   rw [if_pos rfl] at h6
   cases h6
   cases h7
   have:pushAll [] =ByteArray.empty:=rfl
   rw [this] at h8
   rw [h8]
  ·rename_i heq
   cases heq
   rw [h6]
   simp only [h7,h8]
  ·rename_i hno
   exact absurd rfl (hno a n c)
 |complex=>cases h1
 |_=>cases h5
def bstrK (e:TypeId) (s:AS) (v:Value):Option (Value × AS):=Option.rec (motive:=fun _=>Option (Value × AS)) none (fun l=>Bool.rec (motive:=fun _=>Option (Value × AS)) none (newK s (lbytes l) e (slGK (llen l))) (Nat.ble (llen l) 1048576)) (xStr v)
theorem bstrK_ok {C:Cfg} {s:AS} {src d e:TypeId} {u:Value} {r:Value × AS} (hs:C.und src=some .string) (hd:C.und d=some (.slice e)) (he:C.und e=some (.int .u8)) (hz:C.size e=some 1) (h:bstrK e s u=some r):astring C s src d u=some r:=by
 obtain ⟨l,h1,h2⟩:=orec h
 obtain ⟨b,rfl,rfl⟩:=xStr_ok h1
 cases hb:Nat.ble (llen b.data.toList) 1048576 with
 |false=>rw [hb] at h2;cases h2
 |true=>
 rw [hb] at h2
 obtain ⟨s',h3,rfl⟩:=newK_ok h2
 have hbs:b.size≤1048576:=by
  have:=Nat.le_of_ble_eq_true hb
  rw [llen_eq] at this
  exact this
 unfold astring
 rw [hs,hd]
 simp only [he,hz]
 rw [if_pos hbs]
 rw [lbytes_eq] at h3
 rw [h3,llen_eq]
 rfl
def leqB:List UInt8→List UInt8→Bool:=List.rec (motive:=fun _=>List UInt8→Bool) (fun m=>List.rec (motive:=fun _=>Bool) true (fun _ _ _=>false) m) (fun x _ ih m=>List.rec (motive:=fun _=>Bool) false (fun y r _=>Bool.rec (motive:=fun _=>Bool) false (ih r) (Nat.beq (UInt8.toNat x) (UInt8.toNat y))) m)
theorem leqB_eq: ∀ (a b:List UInt8),leqB a b=(a==b)
 | [], [] =>rfl
 | [],_::_=>rfl
 |_::_, [] =>rfl
 |x::a,y::b=>by
  show (Bool.rec (motive:=fun _=>Bool) false (leqB a b) (Nat.beq (UInt8.toNat x) (UInt8.toNat y)):Bool)=_
  rw [leqB_eq a b,List.cons_beq_cons]
  have:Nat.beq x.toNat y.toNat=(x==y):=by
   rw [beqB]
   by_cases h:x=y
   ·subst h;simp
   ·rw [decide_eq_false (fun e=>h (UInt8.toNat_inj.1 e))]
    exact (beq_eq_false_iff_ne.2 h).symm
  rw [this]
  cases x==y<;>rfl
def seqK (neg:Bool) (u w:Value):Option Value:=Option.rec (motive:=fun _=>Option Value) none (fun a=>Option.rec (motive:=fun _=>Option Value) none (fun b=>some (.bool (Bool.rec (motive:=fun _=>Bool) (leqB a b) (Bool.rec (motive:=fun _=>Bool) true false (leqB a b)) neg))) (xStr w)) (xStr u)
def catS (u w:Value):Option Value:=Option.rec (motive:=fun _=>Option Value) none (fun a=>Option.rec (motive:=fun _=>Option Value) none (fun b=>Bool.rec (motive:=fun _=>Option Value) none (some (.string ⟨⟨lapp2 a b⟩⟩)) (Nat.ble (Nat.add (llen a) (llen b)) 1000000)) (xStr w)) (xStr u)
section
variable {E:Env} {dst:Option Tmp} {ty:TypeId} {pos:String} {aft:Array Edge} {gd:Option (Nat × Bool)}
theorem fop_flat {P:Program} {C:Cfg} {ev:Operand→Option Value} {s:AS} {op:BinOp} {t yt:TypeId} {x y:Operand} {u w v:Value} (hx:ev x=some u) (hy:ev y=some w) (hu:flat u=true) (hw:flat w=true) (hn:fbin op u w=none) (ha:anil C t u w=none) (hsy:fsym op u w=none)
  (h:semP P (do eqGuard op t x y u w;binOp op t u w)=some v) (hf:flat v=true):fop C P ev s ⟨dst, .binOp op t x y yt,ty,pos,aft,gd⟩=some (v,s):=by
 have hfl:eFlat none P s ev ⟨dst, .binOp op t x y yt,ty,pos,aft,gd⟩=some (v,s):=by
  have hall: ((⟨dst, .binOp op t x y yt,ty,pos,aft,gd⟩:Oper).op.operands.toList.all (fun x=>match ev x with |some v=>flat v |none=>false))=true:=by
   simp [Op.operands,hx,hy,hu,hw]
  have e:fflat P ev ⟨dst, .binOp op t x y yt,ty,pos,aft,gd⟩=some v:=by
   unfold fflat
   refine (if_pos hall).trans ?_
   have:semP P (execOp (fun x=>(ev x).getD undef) ⟨dst, .binOp op t x y yt,ty,pos,aft,gd⟩)=some (.value v):=by
    simp only [execOp,hx,hy,Option.getD_some]
    have key: ∀ (m:Sem Value),semP P m=some v→semP P (do pure (Next.value (←m)))=some (.value v):=by
     intro m
     induction m with
     |pure a=>intro h;cases h;rfl
     |program k ih=>intro h;exact ih P h
     |_=>intro h;cases h
    exact key _ h
   rw [this]
   simp only [hf,if_true]
  simp only [eFlat,e]
 simp only [fop,hx,hy,hn]
 have hq:fbin2 C t op u w=none:=by
  unfold fbin2
  rw [hsy,ha]
  cases op<;>rfl
 have hq2:e2 ev x y (fbin2 C t op) s=none:=by unfold e2;rw [hx,hy];simp only [hq]
 rw [hq2]
 exact hfl
theorem anil_str {C:Cfg} {t:TypeId} {a b:ByteArray}:anil C t (.string a) (.string b)=none:=by
 unfold anil
 split<;>first |rfl |simp_all
theorem seqK_ok {op:BinOp} {neg:Bool} (hop: (op= .eql∧neg=false)∨(op= .neq∧neg=true)) {t0 yt:TypeId} {x y:Operand} {u w v:Value} {ev:Operand→Option Value} {s:AS} (h:seqK neg u w=some v) (hx:ev x=some u) (hy:ev y=some w):fop E.C E.P ev s ⟨dst, .binOp op t0 x y yt,ty,pos,aft,gd⟩=some (v,s):=by
 obtain ⟨a,h1,h2⟩:=orec h
 obtain ⟨b,h3,h4⟩:=orec h2
 cases h4
 obtain ⟨sa,rfl,rfl⟩:=xStr_ok h1
 obtain ⟨sb,rfl,rfl⟩:=xStr_ok h3
 have hl: (sa.toList==sb.toList)=leqB sa.data.toList sb.data.toList:=by rw [leqB_eq,ByteArray.toList_eq,ByteArray.toList_eq]
 rcases hop with ⟨rfl,rfl⟩| ⟨rfl,rfl⟩
 ·refine fop_flat hx hy rfl rfl rfl anil_str fsym_str ?_ rfl
  simp only [eqGuard,binOp,Op.stringOp,hl]
  rfl
 ·refine fop_flat hx hy rfl rfl rfl anil_str fsym_str ?_ rfl
  simp only [eqGuard,binOp,Op.stringOp,hl]
  cases leqB sa.data.toList sb.data.toList<;>rfl
theorem catS_ok {t0 yt:TypeId} {x y:Operand} {u w v:Value} {ev:Operand→Option Value} {s:AS} (h:catS u w=some v) (hx:ev x=some u) (hy:ev y=some w):fop E.C E.P ev s ⟨dst, .binOp .add t0 x y yt,ty,pos,aft,gd⟩=some (v,s):=by
 obtain ⟨a,h1,h2⟩:=orec h
 obtain ⟨b,h3,h4⟩:=orec h2
 obtain ⟨sa,rfl,rfl⟩:=xStr_ok h1
 obtain ⟨sb,rfl,rfl⟩:=xStr_ok h3
 cases hb:Nat.ble (Nat.add (llen sa.data.toList) (llen sb.data.toList)) 1000000 with
 |false=>rw [hb] at h4;cases h4
 |true=>
  rw [hb] at h4
  cases h4
  have hle:=Nat.le_of_ble_eq_true hb
  rw [llen_eq,llen_eq] at hle
  have hcat:sa++sb=⟨⟨lapp2 sa.data.toList sb.data.toList⟩⟩:=by
   apply ByteArray.ext
   apply Array.ext'
   rw [lapp2_eq]
   simp
  refine fop_flat hx hy rfl rfl rfl anil_str fsym_str ?_ rfl
  have hsz: ¬ (((sa.size+sb.size:Nat):Int)>IntKind.i64.max):=by
   have e1:sa.size=sa.data.toList.length:=rfl
   have e2:sb.size=sb.data.toList.length:=rfl
   rw [e1,e2,show IntKind.i64.max=9223372036854775807 from rfl]
   have:sa.data.toList.length+sb.data.toList.length≤1000000:=hle
   omega
  simp only [eqGuard,binOp,Op.stringOp,if_neg hsz,hcat]
  rfl
end
end
end Go.Proofs.YtdcioacjhpnihaaGreatDoor
