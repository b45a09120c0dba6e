/- The turbo run: every operation, compiled. The quick run: loads that stay; a drawn region; code. The turbo run: regions. The quick run: code, calls; it is right. The turbo run: code, calls; it is right. -/
import Derived.Test.YtdcioacjhpnihaaGreatDoorQ6
import Derived.Test.YtdcioacjhpnihaaGreatDoorQ5
set_option linter.all false
namespace Go.Proofs.YtdcioacjhpnihaaGreatDoor
open Go
noncomputable section
def fgo:Option WOp→EV→Option Value:=Option.rec (motive:=fun _=>EV→Option Value) (fun _=>none) (fun a t=>some (fget a t))
def cmpWo (C:Cfg):Option Operand→Option (Option WOp)
 |none=>some none
 |some x=>match cmpW C x with
  |some a=>some (some a)
  |none=>none
theorem cmpWo_ok {C:Cfg} {x:Option Operand} {a:Option WOp} (h:cmpWo C x=some a) (t:EV):eopt (evW C t) x=some (fgo a t):=by
 cases x with
 |none=>cases h;rfl
 |some x=>
  simp only [cmpWo] at h
  split at h
  ·rename_i b hb
   cases h
   simp only [eopt,cmpW_ok hb t]
   rfl
  ·cases h
def sSl (f:Value→Option Value→Option Value→Option Value→Option Value) (a:WOp) (l h m:Option WOp) (p:WD) (o:Oper):STEP:=fun k E cl rnd t s=>Option.rec (motive:=fun _=>RW) (sAny o p k E cl rnd t s) (fun v=>k E cl rnd (dputW p v t) s) (f (fget a t) (fgo l t) (fgo h t) (fgo m t))
section
variable {E:Env} {p:WD} {dst:Option Tmp} {ty:TypeId} {pos:String} {aft:Array Edge} {gd:Option (Nat × Bool)}
theorem okSl {t0:TypeId} {x:Operand} {l h m:Option Operand} {a:WOp} {l' h' m':Option WOp} (ha:cmpW E.C x=some a) (hl:cmpWo E.C l=some l') (hh:cmpWo E.C h=some h') (hm:cmpWo E.C m=some m'):StepOk E (sSl (aslice E.C t0) a l' h' m' p ⟨dst, .slice t0 x l h m,ty,pos,aft,gd⟩) p ⟨dst, .slice t0 x l h m,ty,pos,aft,gd⟩:=fun k cl rnd t s t' s' hk=>by
 rcases ofrec hk with ⟨v,h1,h2⟩|h1
 ·refine ⟨v,s,?_,h2⟩
  simp only [fxo,fop,aslice2,cmpW_ok ha t,cmpWo_ok hl t,cmpWo_ok hh t,cmpWo_ok hm t,h1,eFlat]
 ·exact okAny k cl rnd t s t' s' h1
end
def lrep (n:Nat) (v:Value):List Value:=Nat.rec (motive:=fun _=>List Value) [] (fun _ ih=>v::ih) n
theorem lrep_eq (v:Value): ∀n,lrep n v=List.replicate n v
 |0=>rfl
 |n+1=>congrArg (v:: ·) (lrep_eq v n)
def mkK (e:TypeId) (zv:Value) (s:AS) (u w:Value):Option (Value × AS):=IV.rec (motive:=fun _=>Option (Value × AS)) none (fun _ l=>IV.rec (motive:=fun _=>Option (Value × AS)) none (fun _ c=>Bool.rec (motive:=fun _=>Option (Value × AS)) none (Bool.rec (motive:=fun _=>Option (Value × AS)) none (newK s (lrep c zv) e (fun n=> .slice (some ⟨n,0,none⟩) l c)) (Nat.ble c 65536)) (Nat.ble l c)) (xInt w)) (xInt u)
def mkFit (C:Cfg) (t:TypeId):Option (TypeId × Value):=match C.und t with
 |some (.slice e)=>match C.tt.get e,azero C e with
  |some i,some zv=>if i.size=1∧i.bytes≤65536∧zv.cells.size=1∧flat1 zv=true then some (e,zv) else none
  |_,_=>none
 |_=>none
theorem zrow_one {zv:Value} (h:flat1 zv=true) (n:Nat):zrow zv n=⟨List.replicate n zv⟩:=by
 have hc:zv.cells= #[zv] :=by cases zv<;>first |rfl |cases h
 have:=zrow_chunks (zv:=zv) (z:=1) (by rw [hc];rfl) (by decide) n
 rw [Nat.mul_one] at this
 apply Array.ext'
 rw [this,flatC]
 clear this
 induction n with
 |zero=>rfl
 |succ n ih=>rw [List.replicate_succ,List.flatMap_cons,ih,hc];rfl
theorem mkK_ok {C:Cfg} {t e:TypeId} {zv:Value} {s:AS} {u w:Value} {r:Value × AS} (hf:mkFit C t=some (e,zv)) (h:mkK e zv s u w=some r):amake C s t u w=some r:=by
 unfold mkFit at hf
 split at hf
 ·rename_i e0 hd
  split at hf
  ·rename_i i zv0 hi hz
   split at hf
   ·rename_i hq
    cases hf
    obtain ⟨q1,q2,q3,q4⟩:=hq
    unfold mkK at h
    cases hu:xInt u with
    |no=>rw [hu] at h;cases h
    |nat k1 l=>
     rw [hu] at h
     cases hw:xInt w with
     |no=>simp only [hw] at h;cases h
     |nat k2 c=>
      simp only [hw] at h
      cases hb:Nat.ble l c with
      |false=>simp only [hb] at h;cases h
      |true=>
       cases hb2:Nat.ble c 65536 with
       |false=>simp only [hb,hb2] at h;cases h
       |true=>
        simp only [hb,hb2] at h
        obtain ⟨s',h1,rfl⟩:=newK_ok h
        have l1:=Nat.le_of_ble_eq_true hb
        have l2:=Nat.le_of_ble_eq_true hb2
        rw [xInt_ok hu,xInt_ok hw]
        unfold amake
        rw [hd]
        simp only [hi,hz]
        rw [if_neg (show ¬ (bigZ≤i.size) by rw [q1];unfold bigZ;omega)]
        unfold amake0
        rw [hd]
        simp only [hi,hz]
        have hzr:zrow zv (c*1)=⟨List.replicate c zv⟩:=by rw [Nat.mul_one];exact zrow_one q4 c
        have hnc: (Int.ofNat c).toNat*i.size=c*1:=by rw [q1];rfl
        rw [hnc,hzr]
        rw [if_pos ⟨Int.natCast_nonneg l,Int.ofNat_le.2 l1,Int.ofNat_le.2 l2,q2,by omega,by
         rw [←Array.all_toList]
         exact List.all_eq_true.2 fun v hv=>by rw [List.eq_of_mem_replicate hv];exact q4⟩]
        rw [lrep_eq] at h1
        rw [h1]
        rfl
   ·cases hf
  ·cases hf
 ·cases hf
def cvW (k:IntKind) (u:Value):Option Value:=IV.rec (motive:=fun _=>Option Value) none (fun _ m=>Bool.rec (motive:=fun _=>Option Value) (mkI k m) (some (.int k (.ofNat (Nat.mod m (klim k))))) (kuns k)) (xInt u)
theorem cvW_ok {k:IntKind} {u v:Value} (h:cvW k u=some v): ∃j m,u= .int j (.ofNat m)∧v= .int k (k.wrap (.ofNat m)):=by
 unfold cvW at h
 cases hx:xInt u with
 |no=>rw [hx] at h;cases h
 |nat j m=>
  rw [hx] at h
  refine ⟨j,m,xInt_ok hx,?_⟩
  cases hu:kuns k with
  |true=>
   simp only [hu] at h
   cases h
   rw [wrap_uns hu]
   rfl
  |false=>
   simp only [hu] at h
   obtain ⟨rfl,hl⟩:=mkI_ok h
   rw [wrap_nat hl]
section
variable {E:Env} {p:WD} {dst:Option Tmp} {ty:TypeId} {pos:String} {aft:Array Edge} {gd:Option (Nat × Bool)}
theorem fop_conv {C:Cfg} {P:Program} (hC:C.ok P) {src d:TypeId} {j0 k:IntKind} {x:Operand} {u v:Value} {ev:Operand→Option Value} {s:AS} (hs:C.und src=some (.int j0)) (hd:C.und d=some (.int k)) (hsc:scalT d=true) (h:cvW k u=some v) (hx:ev x=some u):fop C P ev s ⟨dst, .convert src d x,ty,pos,aft,gd⟩=some (v,s):=by
 obtain ⟨j,m,rfl,rfl⟩:=cvW_ok h
 simp only [fop,hx,hsc,if_true,abytes2,abytesM,aconvU,abytes,hs,hd]
 refine eFlat_of (fun z hz=> ?_) ?_ rfl
 ·simp [Op.operands] at hz;subst hz;exact ⟨_,hx,rfl⟩
 ·simp only [execOp,hx,Option.getD_some]
  refine (semP_bind (a:= .int k (k.wrap (.ofNat m))) ?_).trans rfl
  unfold convert
  rw [semP_bind (semP_und hC hs),semP_bind (semP_und hC hd)]
  rfl
def strK2 (s:AS) (u:Value):Option Value:=Option.rec (motive:=fun _=>Option Value) (strK s u) (fun _=>none) (xStr u)
inductive SI where
 |mv (a:WOp) (p:WD)
 |p1 (f:Value→Option Value) (a:WOp) (p:WD) (o:Oper)
 |p2 (f:Value→Value→Option Value) (a b:WOp) (p:WD) (o:Oper)
 |m1 (f:AS→Value→Option Value) (a:WOp) (p:WD) (o:Oper)
 |st (f:AS→Value→Value→Option AS) (a b:WOp) (p:WD) (o:Oper)
 |a0 (f:AS→Option (Value × AS)) (p:WD) (o:Oper)
 |a1 (f:AS→Value→Option (Value × AS)) (a:WOp) (p:WD) (o:Oper)
 |a2 (f:AS→Value→Value→Option (Value × AS)) (a b:WOp) (p:WD) (o:Oper)
 |pk (c a b:WOp) (p:WD) (o:Oper)
 |cs (f:FuncId) (l:List WOp) (p:WD)
 |any (o:Oper) (p:WD)
 |bin (c:CAR) (a b:WOp) (p:WD) (fb:STEP)
 |shf (c:CSH) (a b:WOp) (p:WD) (o:Oper)
 |dy (a:WOp) (l:List WOp) (p:WD) (o:Oper)
 |bld (ns:List Nat) (l:List WOp) (p:WD) (o:Oper)
 |bs (e:TypeId) (len:Nat) (ns:List Nat) (l:List WOp) (p:WD) (o:Oper)
 |mf (f:FuncId) (b l:List WOp) (p:WD)
 |sl (f:Value→Option Value→Option Value→Option Value→Option Value) (a:WOp) (l h m:Option WOp) (p:WD) (o:Oper)
def runS:SI→STEP:=SI.rec (motive:=fun _=>STEP) sMv sP1 sP2 sM1 sSt sA0 sA1 sA2 sPk sCs sAny sBin sShf sDy sBuild sBS sMf sSl
def orAny (σ:Option SI) (o:Oper) (p:WD):SI:=match σ with
 |some τ=>τ
 |none=> .any o p
def eqFb (C:Cfg) (op:BinOp) (t:TypeId) (a b:WOp) (p:WD) (o:Oper):STEP:=match op with
 | .eql=>sP2 (fun u w=>match anil C t u w with |some b=>some (.bool b)|none=>seqK false u w) a b p o
 | .neq=>sP2 (fun u w=>match anil C t u w with |some b=>some (.bool (!b))|none=>seqK true u w) a b p o
 | .add=>sP2 catS a b p o
 |_=>sAny o p
def cmpS (C:Cfg) (P:Program) (o:Oper) (p:WD):SI:=match o.op with
 | .move x | .assign x=>orAny ((cmpW C x).map fun a=> .mv a p) o p
 | .pick c x y=>match cmpW C c,cmpW C x,cmpW C y with
  |some a,some b,some d=> .pk a b d p o
  |_,_,_=> .any o p
 | .load t x=>match cmpW C x,C.und t with
  |some a,some d=>if aggD d then (match C.size t with
   |some n=> .m1 (lodN n) a p o
   |none=> .any o p) else .m1 lod1 a p o
  |_,_=> .any o p
 | .store t x y=>match cmpW C x,cmpW C y,C.size t with
  |some a,some b,some n=>if n=1 then .st st1 a b p o else .st (stN n) a b p o
  |_,_,_=> .any o p
 | .nilCheck x=>orAny ((cmpW C x).map fun a=> .p1 nchk a p o) o p
 | .binOp op t x y _=>match cmpW C x,cmpW C y with
  |some a,some b=>(match carOf op with
   |some c=> .bin c a b p (eqFb C op t a b p o)
   |none=>(match op with
    | .shl=> .shf aShl a b p o
    | .shr=> .shf aShr a b p o
    |_=> .any o p))
  |_,_=> .any o p
 | .unOp .not _ x=>orAny ((cmpW C x).map fun a=> .p1 bNot a p o) o p
 | .convert src d x=>match cmpW C x,C.und src,C.und d with
  |some a,some (.int _),some (.int k)=>if scalT d then .p1 (cvW k) a p o else .any o p
  |some a,some (.slice e),some .string=>(match C.und e with
   |some (.int .u8)=>if scalT d then .m1 strK2 a p o else .any o p
   |_=> .any o p)
  |some a,some .string,some (.slice e)=>(match C.und e,C.size e with
   |some (.int .u8),some 1=>if scalT d then .any o p else .a1 (bstrK e) a p o
   |_,_=> .any o p)
  |_,_,_=> .any o p
 | .fieldAddr t x f=>match cmpW C x,C.und t with
  |some a,some (.struct fs)=>(match fs[f]? with
   |some fd=>(match C.size fd.type with
    |some n=>if n=0 then .any o p else .p1 (fldA fd.offset) a p o
    |none=> .any o p)
   |none=> .any o p)
  |_,_=> .any o p
 | .field t x f=>match cmpW C x,C.und t with
  |some a,some (.struct fs)=>(match fs[f]? with
   |some fd=>(match C.und fd.type,C.size fd.type with
    |some d,some _=>if aggD d then .any o p else .p1 (fld fd.offset) a p o
    |_,_=> .any o p)
   |none=> .any o p)
  |_,_=> .any o p
 | .indexAddr t x i=>match cmpW C x,cmpW C i,C.und t with
  |some a,some b,some (.slice e)=>(match C.size e with
   |some z=> .p2 (idxS z) a b p o
   |none=> .any o p)
  |some a,some b,some (.array n e)=>(match C.size e with
   |some z=> .p2 (idxA n z) a b p o
   |none=> .any o p)
  |_,_,_=> .any o p
 | .index t x i=>match cmpW C x,cmpW C i,C.und t with
  |some a,some b,some .string=> .p2 idxStr a b p o
  |_,_,_=> .any o p
 | .extract x i=>orAny ((cmpW C x).map fun a=> .p1 (xtr i) a p o) o p
 | .sliceToArrayPointer t x=>orAny ((cmpW C x).map fun a=> .p1 (aarrP C t) a p o) o p
 | .alloc t=>match azero C t with
  |some z=> .a0 (allocK t (cellsK z)) p o
  |none=> .any o p
 | .box t x=>orAny ((cmpW C x).map fun a=> .a1 (boxK t) a p o) o p
 | .build t ps=>match cmpWs C (ps.toList.map (·.2)),bPlaces C P t (ps.toList.map (·.1)) with
  |some l,some ns=> .bld ns l p o
  |_,_=> .any o p
 | .buildSlice t len ps=>match cmpWs C (ps.toList.map (·.2)),bsPlaces C t len (ps.toList.map (·.1)) with
  |some l,some (e,ns)=> .bs e len ns l p o
  |_,_=> .any o p
 | .makeFunc (.func f) fs xs=>match cmpWs C fs.toList,cmpWs C xs.toList with
  |some b,some l=> .mf f b l p
  |_,_=> .any o p
 | .makeSlice t l c=>match cmpW C l,cmpW C c,mkFit C t with
  |some a,some b,some (e,zv)=> .a2 (mkK e zv) a b p o
  |_,_,_=> .any o p
 | .slice t x l h m=>match cmpW C x,cmpWo C l,cmpWo C h,cmpWo C m with
  |some a,some l',some h',some m'=> .sl (aslice C t) a l' h' m' p o
  |_,_,_,_=> .any o p
 | .call c=>match c.callee with
  | .value (.func f)=>orAny ((cmpWs C c.args.toList).map fun l=> .cs f l p) o p
  | .value x=>(match cmpW C x,cmpWs C c.args.toList with
   |some a,some l=> .dy a l p o
   |_,_=> .any o p)
  | .builtin .len=>(match c.argTypes.toList,c.args.toList with
   | [t], [x] =>(match C.und t,cmpW C x with
    |some (.slice _),some a=> .p1 lenS a p o
    |some .string,some a=> .p1 lenStr a p o
    |_,_=> .any o p)
   |_,_=> .any o p)
  | .builtin .append=>(match c.argTypes.toList,c.args.toList with
   | [t,tx], [x,y] =>(match C.und t,C.und tx,cmpW C x,cmpW C y with
    |some (.slice e),some d,some a,some b=>(match C.size e with
     |some z=>if strOrSlice d=true∧growFit C e=true∧z<bigZ then .a2 (appK e z) a b p o else .any o p
     |none=> .any o p)
    |_,_,_,_=> .any o p)
   |_,_=> .any o p)
  |_=> .any o p
 |_=> .any o p
theorem okOr {o:Oper} {σ:Option SI} (h: ∀τ,σ=some τ→StepOk E (runS τ) p o):StepOk E (runS (orAny σ o p)) p o:=by
 cases σ with
 |none=>exact okAny
 |some τ=>exact h τ rfl
theorem eqFb_ok {op:BinOp} {t0 yt:TypeId} {x y:Operand} {a b:WOp} (ha:cmpW E.C x=some a) (hb:cmpW E.C y=some b):StepOk E (eqFb E.C op t0 a b p ⟨dst, .binOp op t0 x y yt,ty,pos,aft,gd⟩) p ⟨dst, .binOp op t0 x y yt,ty,pos,aft,gd⟩:=by
 have hni: ∀ (t:TypeId) (u w:Value) (b:Bool),anil E.C t u w=some b→ ∀op,fbin op u w=none:=fun t u w b h op=>by
  unfold anil at h
  unfold fbin
  split at h<;>first | (cases h;done)| (split<;>first |rfl |simp_all)
 unfold eqFb
 split
 ·refine okP2 ha hb fun u w v ev cl rnd s h h1 h2=> ?_
  split at h
  ·rename_i b hb
   cases h
   simp only [fxo,fop,h1,h2,hni _ _ _ _ hb,e2,fbin2,(fsym_nil hb).1,(fsym_nil hb).2,hb,boolO,notO,eFlat]
  ·exact seqK_ok (.inl ⟨rfl,rfl⟩) h h1 h2
 ·refine okP2 ha hb fun u w v ev cl rnd s h h1 h2=> ?_
  split at h
  ·rename_i b hb
   cases h
   simp only [fxo,fop,h1,h2,hni _ _ _ _ hb,e2,fbin2,(fsym_nil hb).1,(fsym_nil hb).2,hb,boolO,notO,eFlat]
  ·exact seqK_ok (.inr ⟨rfl,rfl⟩) h h1 h2
 ·exact okP2 ha hb fun u w v ev cl rnd s h h1 h2=>catS_ok h h1 h2
 ·exact okAny
set_option maxHeartbeats 4000000 in
theorem cmpS_ok (hC:E.C.ok E.P) (o:Oper) (p:WD):StepOk E (runS (cmpS E.C E.P o p)) p o:=by
 obtain ⟨dst,op,ty,pos,aft,gd⟩:=o
 unfold cmpS
 split<;>rename_i hop<;>simp only at hop
 ·subst hop
  refine okOr fun τ h=> ?_
  obtain ⟨a,ha,rfl⟩:=Option.map_eq_some_iff.1 h
  exact okMv ha fun u ev cl rnd s h1=>by simp only [fxo,fop,e1,h1]
 ·subst hop
  refine okOr fun τ h=> ?_
  obtain ⟨a,ha,rfl⟩:=Option.map_eq_some_iff.1 h
  exact okMv ha fun u ev cl rnd s h1=>by simp only [fxo,fop,e1,h1]
 ·subst hop
  split
  ·rename_i q1 q2 q3;exact okPk q1 q2 q3
  ·exact okAny
 ·subst hop
  split
  ·rename_i a d ha hd
   split
   ·rename_i hag
    split
    ·rename_i n hn
     exact okM1 ha fun u v ev cl rnd s h h1=>by simp only [fxo,fop,e1,h1,lodN_ok hd hag hn h]
    ·exact okAny
   ·rename_i hag
    exact okM1 ha fun u v ev cl rnd s h h1=>by simp only [fxo,fop,e1,h1,lod1_ok hd (by simpa using hag) h]
  ·exact okAny
 ·subst hop
  split
  ·rename_i a b n ha hb hn
   split
   ·rename_i hn1
    subst hn1
    exact okSt ha hb fun u w ev cl rnd s s' h h1 h2=>by simp only [fxo,fop,h1,h2,st1_ok hn h]
   ·exact okSt ha hb fun u w ev cl rnd s s' h h1 h2=>by simp only [fxo,fop,h1,h2,stN_ok hn h]
  ·exact okAny
 ·subst hop
  refine okOr fun τ h=> ?_
  obtain ⟨a,ha,rfl⟩:=Option.map_eq_some_iff.1 h
  exact okP1 ha fun u v ev cl rnd s h h1=>by simp only [fxo,fop,e1,h1,nchk_ok h]
 ·subst hop
  split
  ·rename_i a b ha hb
   split
   ·rename_i c hc
    exact okBin (carOf_ok hc) ha hb (eqFb_ok ha hb)
   ·split
    ·exact okShf car_shl ha hb
    ·exact okShf car_shr ha hb
    ·exact okAny
  ·exact okAny
 ·subst hop
  refine okOr fun τ h=> ?_
  obtain ⟨a,ha,rfl⟩:=Option.map_eq_some_iff.1 h
  refine okP1 ha fun u v ev cl rnd s h h1=> ?_
  obtain ⟨b,h2,h3⟩:=orec h
  cases h3
  have:=xBool_ok h2
  subst this
  simp only [fxo,fop]
  refine eFlat_of (fun z hz=> ?_) ?_ rfl
  ·simp [Op.operands] at hz;subst hz;exact ⟨_,h1,rfl⟩
  ·simp only [execOp,h1,Option.getD_some,Op.unary]
   cases b<;>rfl
 ·subst hop
  split
  ·rename_i a j k ha hs hd
   split
   ·rename_i hsc
    exact okP1 ha fun u v ev cl rnd s h h1=>fop_conv hC hs hd hsc h h1
   ·exact okAny
  ·rename_i a e ha hs hd
   split
   ·rename_i he
    split
    ·rename_i hsc
     refine okM1 ha fun u v ev cl rnd s h h1=> ?_
     have hu: ∀b,u≠ .string b:=fun b e=>by subst e;cases h
     have h':strK s u=some v:=by
      unfold strK2 at h
      cases hx:xStr u with
      |none=>rw [hx] at h;exact h
      |some l=>rw [hx] at h;cases h
     simp only [fxo,fop,h1,hsc,if_true,abytes2,strK_ok hs hd he hu h',eFlat]
    ·exact okAny
   ·exact okAny
  ·rename_i a e ha hs hd
   split
   ·rename_i he hz
    split
    ·exact okAny
    ·rename_i hsc
     exact okA1 ha fun u r ev cl rnd s h h1=>by simp only [fxo,fop,h1,hsc,astring2,bstrK_ok hs hd he hz h];rfl
   ·exact okAny
  ·exact okAny
 ·subst hop
  split
  ·rename_i a fs ha hfs
   split
   ·rename_i fd hfd
    split
    ·rename_i n hn
     split
     ·exact okAny
     ·rename_i hz;exact okP1 ha fun u v ev cl rnd s h h1=>by simp only [fxo,fop,e1,h1,fldA_ok hfs hfd hn hz h]
    ·exact okAny
   ·exact okAny
  ·exact okAny
 ·subst hop
  split
  ·rename_i a fs ha hfs
   split
   ·rename_i fd hfd
    split
    ·rename_i d n hd hn
     split
     ·exact okAny
     ·rename_i hag;exact okP1 ha fun u v ev cl rnd s h h1=>by simp only [fxo,fop,e1,h1,fld_ok hfs hfd hd hn (by simpa using hag) h]
    ·exact okAny
   ·exact okAny
  ·exact okAny
 ·subst hop
  split
  ·rename_i a b e ha hb he
   split
   ·rename_i z hz;exact okP2 ha hb fun u w v ev cl rnd s h h1 h2=>by simp only [fxo,fop,e2,h1,h2,idxS_ok he hz h]
   ·exact okAny
  ·rename_i a b n e ha hb he
   split
   ·rename_i z hz;exact okP2 ha hb fun u w v ev cl rnd s h h1 h2=>by simp only [fxo,fop,e2,h1,h2,idxA_ok he hz h]
   ·exact okAny
  ·exact okAny
 ·subst hop
  split
  ·rename_i a b ha hb ht
   refine okP2 ha hb fun u w v ev cl rnd s h h1 h2=> ?_
   obtain ⟨l,h3,h4⟩:=orec h
   obtain ⟨str,rfl,rfl⟩:=xStr_ok h3
   cases h5:xInt w with
   |no=>simp only [h5] at h4;cases h4
   |nat k m=>
    simp only [h5] at h4
    have:=xInt_ok h5
    subst this
    obtain ⟨b,h6,h7⟩:=orec h4
    cases h7
    rw [lget_eq] at h6
    simp only [fxo,fop,e2,h1,h2,aindex2,aindexM,aindexV,ht]
    refine eFlat_of (fun z hz=> ?_) ?_ rfl
    ·simp [Op.operands] at hz;rcases hz with rfl |rfl
     ·exact ⟨_,h1,rfl⟩
     ·exact ⟨_,h2,rfl⟩
    ·simp only [execOp,h1,h2,Option.getD_some]
     refine (semP_bind (a:= .int .u8 (.ofNat b.toNat)) ?_).trans rfl
     unfold Instr.index
     rw [semP_bind (a:=(k,Int.ofNat m)) rfl]
     simp only
     rw [semP_bind (semP_und hC ht)]
     have hb:str[m]? =some b:=by
      obtain ⟨hm,hbm⟩:=List.getElem?_eq_some_iff.1 h6
      rw [getElem?_pos str m (by simpa using hm)]
      rw [←hbm]
      rfl
     have: (if 0≤ (Int.ofNat m) then str[(Int.ofNat m).toNat]? else none)=some b:=(if_pos (Int.natCast_nonneg m: (0:Int)≤Int.ofNat m)).trans hb
     simp only [this]
     rfl
  ·exact okAny
 ·subst hop
  refine okOr fun τ h=> ?_
  obtain ⟨a,ha,rfl⟩:=Option.map_eq_some_iff.1 h
  refine okP1 ha fun u v ev cl rnd s h h1=> ?_
  obtain ⟨c,rfl,hc⟩:=xtr_ok h
  simp only [fxo,fop,e1,h1,hc]
 ·subst hop
  refine okOr fun τ h=> ?_
  obtain ⟨a,ha,rfl⟩:=Option.map_eq_some_iff.1 h
  exact okP1 ha fun u v ev cl rnd s h h1=>by simp only [fxo,fop,e1,h1,h]
 ·subst hop
  split
  ·rename_i z hz
   exact okA0 fun r ev cl rnd s h=>by simp only [fxo,fop,allocK_ok hz h]
  ·exact okAny
 ·subst hop
  refine okOr fun τ h=> ?_
  obtain ⟨a,ha,rfl⟩:=Option.map_eq_some_iff.1 h
  exact okA1 ha fun u r ev cl rnd s h h1=>by simp only [fxo,fop,h1,boxK_ok h]
 ·subst hop
  split
  ·rename_i l ns h1 h2;exact okBuild h1 h2
  ·exact okAny
 ·subst hop
  split
  ·rename_i l e ns h1 h2;exact okBS h1 h2
  ·exact okAny
 ·subst hop
  split
  ·rename_i b l h1 h2;exact okMf h1 h2
  ·exact okAny
 ·subst hop
  split
  ·rename_i a b e zv ha hb hf
   exact okA2 ha hb fun u w r ev cl rnd s h h1 h2=>by simp only [fxo,fop,h1,h2,mkK_ok hf h]
  ·exact okAny
 ·subst hop
  split
  ·rename_i a l' h' m' ha hl hh hm;exact okSl ha hl hh hm
  ·exact okAny
 ·subst hop
  rename_i c
  obtain ⟨callee,args,ats⟩:=c
  simp only
  split
  ·refine okOr fun τ h=> ?_
   obtain ⟨l,hl,rfl⟩:=Option.map_eq_some_iff.1 h
   exact okCs hl
  ·split
   ·rename_i a l ha hl;exact okDy ha hl
   ·exact okAny
  ·split
   ·rename_i t x ht hx
    split
    ·rename_i e a he ha
     exact okP1 ha fun u v ev cl rnd s h h1=>by simp only [fxo,fop,evs,hx,h1,ht,abuiltin,lenS_ok he h,eFlat]
    ·rename_i a he ha
     exact okP1 ha fun u v ev cl rnd s h h1=>by simp only [fxo,fop,evs,hx,h1,ht,abuiltin,lenStr_ok he h,eFlat]
    ·exact okAny
   ·exact okAny
  ·split
   ·rename_i t tx x y ht hx
    split
    ·rename_i e d a b hte htx ha hb
     split
     ·rename_i z hz
      split
      ·rename_i hq
       exact okA2 ha hb fun u w r ev cl rnd s h h1 h2=>by simp only [fxo,fop,evs,hx,h1,h2,ht,abuiltin,appK_ok hte htx hq.1 hz hq.2.1 hq.2.2 h,eFlat]
      ·exact okAny
     ·exact okAny
    ·exact okAny
   ·exact okAny
  ·exact okAny
 ·exact okAny
end
end
end Go.Proofs.YtdcioacjhpnihaaGreatDoor
namespace Go.Proofs.YtdcioacjhpnihaaGreatDoor
open Go
noncomputable section
def tb (m i:Nat):Bool:=Nat.beq (Nat.mod (Nat.div m (Nat.pow 2 i)) 2) 1
theorem tb_eq (m i:Nat):tb m i=m.testBit i:=by
 unfold tb
 rw [beqB,Nat.testBit_eq_decide_div_mod_eq]
 rfl
def lgetD (l:List Nat) (i:Nat):Nat:=Option.rec (motive:=fun _=>Nat) 0 (fun x=>x) (lget l i)
theorem lgetD_eq (l:List Nat) (i:Nat):lgetD l i=l.getD i 0:=by
 unfold lgetD
 rw [lget_eq,List.getD]
 cases l[i]? <;>rfl
def mayAt (m:Nat) (M:List Nat) (i k:Nat) (effs:List (Nat × Nat)):Bool:=List.rec (motive:=fun _=>Bool) true (fun x _ ih=>Prod.rec (motive:=fun _=>Bool) (fun e q=>
 Bool.rec (motive:=fun _=>Bool) (Bool.rec (motive:=fun _=>Bool) ih (Bool.rec (motive:=fun _=>Bool) false ih (Nat.ble k q)) (tb (lgetD M e) i)) (Bool.rec (motive:=fun _=>Bool) false (Bool.rec (motive:=fun _=>Bool) ih (Bool.rec (motive:=fun _=>Bool) false ih (Nat.ble k q)) (tb (lgetD M e) i)) (Nat.ble (Nat.succ q) k)) (tb m e)) x) effs
theorem mayAt_eq (M:List Nat) (i k:Nat): ∀ (effs:List (Nat × Nat)),mayAt (M.getD i 0) M i k effs=effs.all fun (e,q)=>(!(M.getD i 0).testBit e ||decide (q<k))&& (!(M.getD e 0).testBit i ||decide (k≤q))
 | [] =>rfl
 | (e,q)::l=>by
  have h:mayAt (M.getD i 0) M i k ((e,q)::l)=(Bool.rec (motive:=fun _=>Bool) (Bool.rec (motive:=fun _=>Bool) (mayAt (M.getD i 0) M i k l) (Bool.rec (motive:=fun _=>Bool) false (mayAt (M.getD i 0) M i k l) (Nat.ble k q)) (tb (lgetD M e) i)) (Bool.rec (motive:=fun _=>Bool) false (Bool.rec (motive:=fun _=>Bool) (mayAt (M.getD i 0) M i k l) (Bool.rec (motive:=fun _=>Bool) false (mayAt (M.getD i 0) M i k l) (Nat.ble k q)) (tb (lgetD M e) i)) (Nat.ble (Nat.succ q) k)) (tb (M.getD i 0) e):Bool):=rfl
  rw [h,List.all_cons, ←mayAt_eq M i k l,tb_eq,tb_eq,lgetD_eq,bleB,bleB]
  simp only [Nat.succ_le_iff]
  generalize (M.getD i 0).testBit e=a
  generalize (M.getD e 0).testBit i=b
  generalize decide (q<k)=c
  generalize decide (k≤q)=d
  generalize mayAt (M.getD i 0) M i k l=f
  cases a<;>cases b<;>cases c<;>cases d<;>cases f<;>rfl
def veqI (v u:Value):Bool:=IV.rec (motive:=fun _=>Bool) (PV.rec (motive:=fun _=>Bool) (veq 8 v u) (fun k o=>PV.rec (motive:=fun _=>Bool) false (fun k' o'=>Bool.rec (motive:=fun _=>Bool) false (Nat.beq o o') (Nat.beq k k')) (xPtr u)) (xPtr v)) (fun k m=>IV.rec (motive:=fun _=>Bool) false (fun k' m'=>Bool.rec (motive:=fun _=>Bool) false (Nat.beq m m') (Nat.beq (kidx k) (kidx k'))) (xInt u)) (xInt v)
def stayG (ci:CI) (x:FO) (t:T Value) (v:Value) (m:Nat) (M:List Nat) (effs:List (Nat × Nat)) (E:Env) (cl:FCl) (rnd:RND) (gs:List AS):Nat→Bool:=List.rec (motive:=fun _=>Nat→Bool) (fun _=>true) (fun g _ ih k=>
 Bool.rec (motive:=fun _=>Bool) (ih (Nat.succ k)) (Option.rec (motive:=fun _=>Bool) false (fun r=>Prod.rec (motive:=fun _=>Bool) (fun u _=>Bool.rec (motive:=fun _=>Bool) false (ih (Nat.succ k)) (veqI u v)) r) (run1 ci (FO.o x) E cl rnd t g)) (mayAt m M (FO.i x) k effs)) gs
def isLook (o:Oper):Bool:=Nat.beq (kindOf o) 0
def stayL (M:List Nat) (effs:List (Nat × Nat)) (gs:List AS) (E:Env) (cl:FCl) (rnd:RND) (l:List LD):Bool:=List.rec (motive:=fun _=>Bool) true (fun q _ ih=>LD.rec (motive:=fun _=>Bool) (fun ci x t v=>Bool.rec (motive:=fun _=>Bool) false (Bool.rec (motive:=fun _=>Bool) false ih (stayG ci x t v (lgetD M (FO.i x)) M effs E cl rnd gs 0)) (isLook (FO.o x))) q) l
inductive DC where
 |mk (M:List Nat) (l:List CR) (n:Nat)
def cmpDr (C:Cfg) (ops:Array Oper) (sz:Nat):Option DC:=match drwOf ops sz with
 |some D=>if D.sq.all fitO then some (.mk D.M (cmpRs C D.sq) ops.size) else none
 |none=>none
inductive RS where
 |no
 |mk (t:T Value) (s:AS)
def gDraw (E:Env) (cl:FCl) (rnd:RND) (ops:Array Oper) (sz:Nat) (t:T Value) (s:AS):RS:=Option.rec (motive:=fun _=>RS) .no (fun d=>DC.rec (motive:=fun _=>RS) (fun M l n=>AS.rec (motive:=fun _=>RS) (fun h b=>
 GR.rec (motive:=fun _=>RS) .no (fun t' s' effs gs loads=>Bool.rec (motive:=fun _=>RS) .no (.mk t' s') (stayL M effs gs E cl rnd loads)) (gRun l E cl rnd b n t ⟨h,Nat.add b n⟩ ⟨h,Nat.add b n⟩ [] [⟨h,Nat.add b n⟩] [] 0)) s) d) (cmpDr (Env.C E) ops sz)
def cmpOps (C:Cfg) (ops:Array Oper) (sz:Nat):Option (List CX):=match decL ops sz (List.range ops.size) with
 |some l=>if l.all (fun x=>fitO x&& !isDefer x.o) then some (l.map (cmpX C)) else none
 |none=>none
end
end Go.Proofs.YtdcioacjhpnihaaGreatDoor
namespace Go.Proofs.YtdcioacjhpnihaaGreatDoor
open Go
noncomputable section
inductive WG where
 |no
 |at_ (hi lo:I16) (b:Bool)
def cmpWG:Option (Nat × Bool)→Option WG
 |none=>some .no
 |some (k,b)=>if k<256 then forceI (toI (k/16)) fun hi=>forceI (toI (k%16)) fun lo=>some (.at_ hi lo b) else none
def wantAt (hi lo:I16) (b:Bool) (t:EV):Bool:=Option.rec (motive:=fun _=>Bool) false (fun c=>Bool.rec (motive:=fun _=>Bool) (Bool.rec (motive:=fun _=>Bool) true false b) b c) (xBool (wget hi lo t))
def wantW:WG→EV→Bool:=WG.rec (motive:=fun _=>EV→Bool) (fun _=>true) wantAt
theorem wantW_ok {x:FO} {g:WG} (h:cmpWG x.g=some g) {t:EV} {B:T Value} (hr:envR t B):wantW g t=fWant x B:=by
 unfold fWant
 cases hg:x.g with
 |none=>rw [hg] at h;cases h;rfl
 |some q=>
  obtain ⟨k,b⟩:=q
  rw [hg] at h
  simp only [cmpWG] at h
  split at h
  ·rename_i hk
   rw [forceI_eq,forceI_eq] at h
   cases h
   have h1:=hr k
   rw [if_pos hk] at h1
   show (Option.rec (motive:=fun _=>Bool) false (fun c=>Bool.rec (motive:=fun _=>Bool) (Bool.rec (motive:=fun _=>Bool) true false b) b c) (xBool (wget (toI (k/16)) (toI (k%16)) t)):Bool)=(match B.get k with |some (.bool c)=>c==b |_=>false)
   rw [←h1]
   cases B.get k with
   |none=>rfl
   |some v=>
    cases v<;>first
     |rfl
     | (rename_i c;cases c<;>cases b<;>rfl)
  ·cases h
def wEnd:WK:=fun _ _ _ t s=> .mk t s
theorem wEnd_ok {E:Env} {σ:STEP} {p:WD} {o:Oper} (h:StepOk E σ p o) {cl:FCl} {rnd:RND} {t t':EV} {s s':AS} (hk:σ wEnd E cl rnd t s= .mk t' s'): ∃v,fxo E cl rnd (evW E.C t) o s=some (v,s')∧t'=dputW p v t:=by
 obtain ⟨v,s1,h1,h2⟩:=h _ _ _ _ _ _ _ hk
 cases h2
 exact ⟨v,h1,rfl⟩
inductive CW where
 |st (g:WG) (p:WD) (σ:SI)
 |df (g:WG) (p:WD) (c:Call)
def cmpCW (C:Cfg) (P:Program) (x:FO):Option CW:=match cmpWG x.g,cmpWD x.o.dst with
 |some g,some p=>some (match x.o.op with
  | .defer c=> .df g p c
  |_=> .st g p (cmpS C P x.o p))
 |_,_=>none
def cmpCWs (C:Cfg) (P:Program):List FO→Option (List CW)
 | [] =>some []
 |x::l=>match cmpCW C P x,cmpCWs C P l with
  |some y,some r=>some (y::r)
  |_,_=>none
def wSt (g:WG) (p:WD) (σ:SI) (ih:WK):WK:=WG.rec (motive:=fun _=>WK) (runS σ ih) (fun hi lo b=>fun E cl rnd t s=>Bool.rec (motive:=fun _=>RW) (ih E cl rnd (dputW p undef t) s) (runS σ ih E cl rnd t s) (wantAt hi lo b t)) g
def wNo:WK:=fun _ _ _ _ _=> .no
def wCons (x:CW) (ih:WK):WK:=CW.rec (motive:=fun _=>WK) (fun g p σ=>wSt g p σ ih) (fun _ _ _=>wNo) x
def wOps:List CW→WK:=List.rec (motive:=fun _=>WK) wEnd (fun x _ ih=>wCons x ih)
theorem wSt_eq (g:WG) (p:WD) (σ:SI) (ih:WK) (E:Env) (cl:FCl) (rnd:RND) (t:EV) (s:AS):wSt g p σ ih E cl rnd t s=(match wantW g t with
  |true=>runS σ ih E cl rnd t s
  |false=>ih E cl rnd (dputW p undef t) s):=by
 cases g with
 |no=>rfl
 |at_ hi lo b=>
  show (Bool.rec (motive:=fun _=>RW) (ih E cl rnd (dputW p undef t) s) (runS σ ih E cl rnd t s) (wantAt hi lo b t):RW)=(match wantAt hi lo b t with
   |true=>runS σ ih E cl rnd t s
   |false=>ih E cl rnd (dputW p undef t) s)
  cases wantAt hi lo b t<;>rfl
theorem cmpCW_ok {C:Cfg} {P:Program} {x:FO} {y:CW} (h:cmpCW C P x=some y): ∃g p,cmpWG x.g=some g∧cmpWD x.o.dst=some p∧((∃c,x.o.op= .defer c∧y= .df g p c)∨((∀c,x.o.op≠ .defer c)∧y= .st g p (cmpS C P x.o p))):=by
 unfold cmpCW at h
 split at h
 ·rename_i g p hg hp
  refine ⟨g,p,hg,hp,?_⟩
  split at h
  ·rename_i c hc;cases h;exact .inl ⟨c,hc,rfl⟩
  ·rename_i hc;cases h;exact .inr ⟨fun c h=>hc c h,rfl⟩
 ·cases h
theorem wOps_ok {E:Env} (hC:E.C.ok E.P) {cl cl':FCl} {rnd rnd':RND} (hc:CallLe cl cl') (hr:RndLe rnd rnd') {inR:Bool} {d:List Deferred}: ∀ (l:List FO) {c:List CW},cmpCWs E.C E.P l=some c→ ∀ {t t':EV} {s s':AS},wOps c E cl rnd t s= .mk t' s'→ ∀ {B:T Value},envR t B→
  ∃B',envR t' B'∧fOps E.C inR (fxo E cl' rnd') l B d s=some (B',d,s')
 | [],c,h,t,t',s,s',hk,B,hB=>by
  cases h
  cases hk
  exact ⟨B,hB,rfl⟩
 |x::l,c,h,t,t',s,s',hk,B,hB=>by
  unfold cmpCWs at h
  split at h
  ·rename_i y r hy hrr
   cases h
   obtain ⟨g,p,hg,hp,hh⟩:=cmpCW_ok hy
   rcases hh with ⟨cc,hcc,rfl⟩| ⟨hnd,rfl⟩
   ·have hk: (RW.no:RW)= .mk t' s':=hk
    cases hk
   ·have hk:wSt g p (cmpS E.C E.P x.o p) (wOps r) E cl rnd t s= .mk t' s':=hk
    rw [wSt_eq,wantW_ok hg hB] at hk
    unfold fOps
    cases hw:fWant x B with
    |false=>
     rw [hw] at hk
     obtain ⟨B',h1,h2⟩:=wOps_ok hC hc hr (inR:=inR) (d:=d) l hrr hk (cmpWD_ok hp hB undef)
     exact ⟨B',h1,by simpa using h2⟩
    |true=>
     rw [hw] at hk
     have hk:runS (cmpS E.C E.P x.o p) (wOps r) E cl rnd t s= .mk t' s':=hk
     obtain ⟨v,s1,h1,h2⟩:=cmpS_ok hC x.o p _ _ _ _ _ _ _ hk
     obtain ⟨B',h3,h4⟩:=wOps_ok hC hc hr (inR:=inR) (d:=d) l hrr h2 (cmpWD_ok hp hB v)
     refine ⟨B',h3,?_⟩
     rw [if_pos rfl]
     rw [←envR_ev hB] at h1
     split
     ·rename_i c hcd
      exact absurd hcd (hnd c)
     ·rw [fxo_mono hc hr h1]
      exact h4
  ·cases h
inductive RD where
 |no
 |mk (t:EV) (d:List Deferred) (s:AS)
abbrev WD':=Env→FCl→RND→EV→List Deferred→AS→RD
def dSt (g:WG) (p:WD) (σ:SI) (ih:WD'):WD':=fun E cl rnd t d s=>Bool.rec (motive:=fun _=>RD) (ih E cl rnd (dputW p undef t) d s) (RW.rec (motive:=fun _=>RD) .no (fun t' s'=>ih E cl rnd t' d s') (runS σ wEnd E cl rnd t s)) (wantW g t)
def dDf (g:WG) (p:WD) (c:Call) (ih:WD'):WD':=fun E cl rnd t d s=>Bool.rec (motive:=fun _=>RD) (ih E cl rnd (dputW p undef t) d s) (Option.rec (motive:=fun _=>RD) .no (fun df=>ih E cl rnd (dputW p undef t) (df::d) s) (fdefer (evW (Env.C E) t) c)) (wantW g t)
def dCons (x:CW) (ih:WD'):WD':=CW.rec (motive:=fun _=>WD') (fun g p σ=>dSt g p σ ih) (fun g p c=>dDf g p c ih) x
def dNil:WD':=fun _ _ _ t d s=> .mk t d s
def dOps:List CW→WD':=List.rec (motive:=fun _=>WD') dNil (fun x _ ih=>dCons x ih)
theorem dOps_ok {E:Env} (hC:E.C.ok E.P) {cl cl':FCl} {rnd rnd':RND} (hc:CallLe cl cl') (hr:RndLe rnd rnd'): ∀ (l:List FO) {c:List CW},cmpCWs E.C E.P l=some c→ ∀ {t t':EV} {d d':List Deferred} {s s':AS},dOps c E cl rnd t d s= .mk t' d' s'→ ∀ {B:T Value},envR t B→
  ∃B',envR t' B'∧fOps E.C false (fxo E cl' rnd') l B d s=some (B',d',s')
 | [],c,h,t,t',d,d',s,s',hk,B,hB=>by
  cases h
  cases hk
  exact ⟨B,hB,rfl⟩
 |x::l,c,h,t,t',d,d',s,s',hk,B,hB=>by
  unfold cmpCWs at h
  split at h
  ·rename_i y r hy hrr
   cases h
   obtain ⟨g,p,hg,hp,hh⟩:=cmpCW_ok hy
   unfold fOps
   rcases hh with ⟨cc,hcc,rfl⟩| ⟨hnd,rfl⟩
   ·have hk: (Bool.rec (motive:=fun _=>RD) (dOps r E cl rnd (dputW p undef t) d s) (Option.rec (motive:=fun _=>RD) .no (fun df=>dOps r E cl rnd (dputW p undef t) (df::d) s) (fdefer (evW E.C t) cc)) (wantW g t):RD)= .mk t' d' s':=hk
    rw [wantW_ok hg hB] at hk
    cases hw:fWant x B with
    |false=>
     rw [hw] at hk
     obtain ⟨B',h1,h2⟩:=dOps_ok hC hc hr l hrr hk (cmpWD_ok hp hB undef)
     exact ⟨B',h1,by simpa using h2⟩
    |true=>
     rw [hw] at hk
     rw [if_pos rfl]
     simp only [hcc,Bool.false_eq_true,if_false]
     rw [envR_ev hB]
     cases hdf:fdefer (evW E.C t) cc with
     |none=>simp only [hdf] at hk;cases hk
     |some df=>
      simp only [hdf] at hk
      obtain ⟨B',h1,h2⟩:=dOps_ok hC hc hr l hrr hk (cmpWD_ok hp hB undef)
      exact ⟨B',h1,h2⟩
   ·have hk: (Bool.rec (motive:=fun _=>RD) (dOps r E cl rnd (dputW p undef t) d s) (RW.rec (motive:=fun _=>RD) .no (fun t' s'=>dOps r E cl rnd t' d s') (runS (cmpS E.C E.P x.o p) wEnd E cl rnd t s)) (wantW g t):RD)= .mk t' d' s':=hk
    rw [wantW_ok hg hB] at hk
    cases hw:fWant x B with
    |false=>
     rw [hw] at hk
     obtain ⟨B',h1,h2⟩:=dOps_ok hC hc hr l hrr hk (cmpWD_ok hp hB undef)
     exact ⟨B',h1,by simpa using h2⟩
    |true=>
     rw [hw] at hk
     rw [if_pos rfl]
     cases hrun:runS (cmpS E.C E.P x.o p) wEnd E cl rnd t s with
     |no=>simp only [hrun] at hk;cases hk
     |mk t1 s1=>
      simp only [hrun] at hk
      obtain ⟨v,h1,rfl⟩:=wEnd_ok (cmpS_ok hC x.o p) hrun
      obtain ⟨B',h3,h4⟩:=dOps_ok hC hc hr l hrr hk (cmpWD_ok hp hB v)
      refine ⟨B',h3,?_⟩
      rw [←envR_ev hB] at h1
      split
      ·rename_i c hcd
       exact absurd hcd (hnd c)
      ·rw [fxo_mono hc hr h1]
       exact h4
  ·cases h
inductive OW where
 |pl (l:List CW)
 |wd (l:List CW)
def anyDf:List FO→Bool
 | [] =>false
 |x::l=>isDefer x.o ||anyDf l
def cmpOpsW (C:Cfg) (P:Program) (ops:Array Oper) (sz:Nat):Option OW:=match decL ops sz (List.range ops.size) with
 |some l=>match cmpCWs C P l with
  |some c=>some (if anyDf l then .wd c else .pl c)
  |none=>none
 |none=>none
inductive MK where
 |al (z:List Value) (t:TypeId)
 |bx (t:TypeId) (a:WOp)
 |bs (e:TypeId) (len:Nat) (ns:List Nat) (l:List WOp)
 |any
def runMK:MK→Oper→Env→EV→Nat→Option (Obj × Value):=MK.rec (motive:=fun _=>Oper→Env→EV→Nat→Option (Obj × Value))
 (fun z t _ _ _ k=>some (.cells ⟨z⟩ t (0,0), .pointer (some ⟨k,0,none⟩)))
 (fun t a _ _ ev k=>some (.cells ⟨cellsK (fget a ev)⟩ t (0,0), .pointer (some ⟨k,0,none⟩)))
 (fun e len ns l o E ev k=>Option.rec (motive:=fun _=>Option (Obj × Value)) (eal (Env.C E) (evW (Env.C E) ev) o k) (fun c=>some (.cells ⟨c⟩ e (0,0), .slice (some ⟨k,0,none⟩) len len)) (catK ns (fgets l ev)))
 (fun o E ev k=>eal (Env.C E) (evW (Env.C E) ev) o k)
def cmpMK (C:Cfg) (o:Oper):MK:=match o.op with
 | .alloc t=>match azero C t with
  |some z=> .al (cellsK z) t
  |none=> .any
 | .box t x=>match cmpW C x with
  |some a=> .bx t a
  |none=> .any
 | .buildSlice t len ps=>match cmpWs C (ps.toList.map (·.2)),bsPlaces C t len (ps.toList.map (·.1)) with
  |some l,some (e,ns)=> .bs e len ns l
  |_,_=> .any
 |_=> .any
theorem cellsK_arr (v:Value): (⟨cellsK v⟩:Array Value)=v.cells:=by rw [cellsK_eq]
theorem runMK_ok {E:Env} {o:Oper} {t:EV} {k:Nat} {r:Obj × Value} (h:runMK (cmpMK E.C o) o E t k=some r):eal E.C (evW E.C t) o k=some r:=by
 obtain ⟨dst,op,ty,pos,aft,gd⟩:=o
 unfold cmpMK at h
 split at h
 ·rename_i t0 hop
  have hop:op=_:=hop
  subst hop
  split at h
  ·rename_i z hz
   have h:some (Obj.cells ⟨cellsK z⟩ t0 (0,0),Value.pointer (some ⟨k,0,none⟩))=some r:=h
   rw [cellsK_arr] at h
   simp only [eal,hz]
   exact h
  ·exact h
 ·rename_i t0 x hop
  have hop:op=_:=hop
  subst hop
  split at h
  ·rename_i a ha
   have h:some (Obj.cells ⟨cellsK (fget a t)⟩ t0 (0,0),Value.pointer (some ⟨k,0,none⟩))=some r:=h
   rw [cellsK_arr] at h
   simp only [eal,cmpW_ok ha t]
   exact h
  ·exact h
 ·rename_i t0 len ps hop
  have hop:op=_:=hop
  subst hop
  split at h
  ·rename_i l e ns h1 h2
   have h: (Option.rec (motive:=fun _=>Option (Obj × Value)) (eal E.C (evW E.C t) ⟨dst, .buildSlice t0 len ps,ty,pos,aft,gd⟩ k) (fun c=>some (.cells ⟨c⟩ e (0,0), .slice (some ⟨k,0,none⟩) len len)) (catK ns (fgets l t)):Option (Obj × Value))=some r:=h
   cases h3:catK ns (fgets l t) with
   |none=>rw [h3] at h;exact h
   |some c=>
    rw [h3] at h
    simp only [eal,eparts_zip (t:=t) h1]
    unfold bsPlaces at h2
    split at h2
    ·rename_i e0 hd
     split at h2
     ·rename_i z zv hz hzv
      split at h2
      ·rename_i hq
       split at h2
       ·rename_i ns0 hin
        cases h2
        have hin':inRow (fun i=>some (i*z,z)) (zrow zv (len*z)).size (ps.toList.map (·.1)) 0=some ns:=by rw [zrow_size];exact hin
        have h9:=fill_row hin' (by rw [fgets_len (t:=t) h1];simp) h3
        simp only [hd,hz,hzv]
        rw [if_pos ⟨hq.1,zrow_flat hq.2.2.1 hq.2.1 hq.2.2.2 len⟩,h9]
        exact h
       ·cases h2
      ·cases h2
     ·cases h2
    ·cases h2
  ·exact h
 ·exact h
inductive CRW where
 |mk (g:WG) (p:WD) (σ:SI) (mk:MK) (i:Nat) (o:Oper) (kd:Kd) (lk:Bool) (al:List Nat)
inductive LW where
 |mk (σ:SI) (p:WD) (i:Nat) (t t':EV)
inductive GW where
 |no
 |mk (t:EV) (s:AS) (effs:List (Nat × Nat)) (gs:List AS) (loads:List LW)
abbrev WRun:=Env→FCl→RND→Nat→Nat→EV→AS→AS→List (Nat × Nat)→List AS→List LW→Nat→GW
def wrNil:WRun:=fun _ _ _ _ _ t _ s effs gs loads _=> .mk t s effs gs loads
def wLook (p:WD) (σ:SI) (i:Nat) (lk:Bool) (ih:WRun):WRun:=fun E cl rnd base n t g s effs gs loads k=>
 RW.rec (motive:=fun _=>GW) .no (fun t' _=>ih E cl rnd base n t' g s effs gs (Bool.rec (motive:=fun _=>List LW) loads (.mk σ p i t t'::loads) lk) k) (runS σ wEnd E cl rnd t g)
def wMake (p:WD) (mk:MK) (i:Nat) (o:Oper) (ih:WRun):WRun:=fun E cl rnd base n t g s effs gs loads k=>
 Option.rec (motive:=fun _=>GW) .no (fun r=>Prod.rec (motive:=fun _=>GW) (fun ob v=>Option.rec (motive:=fun _=>GW) .no (fun s'=>ih E cl rnd base n (dputW p v t) g s' effs gs loads k) (hput s (Nat.add base i) ob)) r) (runMK mk o E t (Nat.add base i))
def wAct (σ:SI) (i:Nat) (al:List Nat) (ih:WRun):WRun:=fun E cl rnd base n t _ s effs gs loads k=>
 RW.rec (motive:=fun _=>GW) .no (fun t' s'=>Bool.rec (motive:=fun _=>GW) .no (Bool.rec (motive:=fun _=>GW) .no (ih E cl rnd base n t' s' s' (effs++ [(i,k)]) (gs++ [s']) loads (Nat.succ k)) (freeAll s' base al)) (Nat.ble (Nat.add base n) (AS.n s'))) (runS σ wEnd E cl rnd t s)
def wrCons (x:CRW) (ih:WRun):WRun:=CRW.rec (motive:=fun _=>WRun) (fun g p σ mk i o kd lk al=>fun E cl rnd base n t gg s effs gs loads k=>
 Bool.rec (motive:=fun _=>GW) (ih E cl rnd base n (dputW p undef t) gg s effs gs loads k) (Kd.rec (motive:=fun _=>WRun) (wLook p σ i lk ih) (wMake p mk i o ih) (wAct σ i al ih) kd E cl rnd base n t gg s effs gs loads k) (wantW g t)) x
def wRun:List CRW→WRun:=List.rec (motive:=fun _=>WRun) wrNil (fun x _ ih=>wrCons x ih)
def cmpRW (C:Cfg) (P:Program) (x:FO) (l:List FO):Option CRW:=match cmpWG x.g,cmpWD x.o.dst with
 |some g,some p=>some (.mk g p (cmpS C P x.o p) (cmpMK C x.o) x.i x.o (kdOf x.o) (looksM x.o) (alOf l))
 |_,_=>none
def cmpRWs (C:Cfg) (P:Program):List FO→Option (List CRW)
 | [] =>some []
 |x::l=>match cmpRW C P x l,cmpRWs C P l with
  |some y,some r=>some (y::r)
  |_,_=>none
def LRel (C:Cfg) (P:Program) (q:LW) (z:FO × T Value × Value):Prop:=match q with
 | .mk σ p i t t'=>σ=cmpS C P z.1.o p∧i=z.1.i∧envR t z.2.1∧t'=dputW p z.2.2 t∧kindOf z.1.o=0
def LRels (C:Cfg) (P:Program):List LW→List (FO × T Value × Value)→Prop
 | [], [] =>True
 |q::l,z::m=>LRel C P q z∧LRels C P l m
 |_,_=>False
theorem wRun_ok {E:Env} (hC:E.C.ok E.P) {cl cl':FCl} {rnd rnd':RND} (hc:CallLe cl cl') (hr:RndLe rnd rnd') {base n:Nat}: ∀ (l:List FO) {c:List CRW},cmpRWs E.C E.P l=some c→ ∀ {t:EV} {g s:AS} {effs:List (Nat × Nat)} {gs:List AS} {loads:List LW} {k:Nat} {t':EV} {s':AS} {effs':List (Nat × Nat)} {gs':List AS} {loads':List LW},
  wRun c E cl rnd base n t g s effs gs loads k= .mk t' s' effs' gs' loads'→ ∀ {B:T Value} {lo:List (FO × T Value × Value)},envR t B→LRels E.C E.P loads lo→
  ∃B' lo',envR t' B'∧LRels E.C E.P loads' lo'∧fRun E.C E.P (fxo E cl' rnd') base n l B g s effs gs lo k=some ⟨B',s',effs',gs',lo'⟩
 | [],c,h,t,g,s,effs,gs,loads,k,t',s',effs',gs',loads',hk,B,lo,hB,hlo=>by
  cases h
  cases hk
  exact ⟨B,lo,hB,hlo,rfl⟩
 |x::l,c,h,t,g,s,effs,gs,loads,k,t',s',effs',gs',loads',hk,B,lo,hB,hlo=>by
  unfold cmpRWs at h
  split at h
  ·rename_i y r hy hrr
   cases h
   unfold cmpRW at hy
   split at hy
   ·rename_i gg p hg hp
    cases hy
    have hk: (Bool.rec (motive:=fun _=>GW) (wRun r E cl rnd base n (dputW p undef t) g s effs gs loads k) (Kd.rec (motive:=fun _=>WRun) (wLook p (cmpS E.C E.P x.o p) x.i (looksM x.o) (wRun r)) (wMake p (cmpMK E.C x.o) x.i x.o (wRun r)) (wAct (cmpS E.C E.P x.o p) x.i (alOf l) (wRun r)) (kdOf x.o) E cl rnd base n t g s effs gs loads k) (wantW gg t):GW)= .mk t' s' effs' gs' loads':=hk
    rw [wantW_ok hg hB] at hk
    unfold fRun
    cases hw:fWant x B with
    |false=>
     rw [hw] at hk
     obtain ⟨B',lo',h1,h2,h3⟩:=wRun_ok hC hc hr l hrr hk (cmpWD_ok hp hB undef) hlo
     exact ⟨B',lo',h1,h2,by simpa using h3⟩
    |true=>
     rw [hw] at hk
     rw [if_pos rfl]
     unfold kdOf at hk
     split at hk
     ·rename_i hkd
      rw [hkd]
      simp only
      have hk: (RW.rec (motive:=fun _=>GW) .no (fun t' _=>wRun r E cl rnd base n t' g s effs gs (Bool.rec (motive:=fun _=>List LW) loads (.mk (cmpS E.C E.P x.o p) p x.i t t'::loads) (looksM x.o)) k) (runS (cmpS E.C E.P x.o p) wEnd E cl rnd t g):GW)= .mk t' s' effs' gs' loads':=hk
      cases hrun:runS (cmpS E.C E.P x.o p) wEnd E cl rnd t g with
      |no=>rw [hrun] at hk;cases hk
      |mk t1 s1=>
       rw [hrun] at hk
       simp only at hk
       obtain ⟨v,h1,rfl⟩:=wEnd_ok (cmpS_ok hC x.o p) hrun
       rw [fxo_look hkd, ←envR_ev hB] at h1
       rw [h1]
       simp only
       cases hlk:looksM x.o with
       |false=>
        simp only [hlk] at hk
        exact wRun_ok hC hc hr l hrr hk (cmpWD_ok hp hB v) hlo
       |true=>
        simp only [hlk] at hk
        exact wRun_ok hC hc hr l hrr hk (cmpWD_ok hp hB v) ⟨⟨rfl,rfl,hB,rfl,hkd⟩,hlo⟩
     ·rename_i hkd
      rw [hkd]
      simp only
      have hk: (Option.rec (motive:=fun _=>GW) .no (fun q=>Prod.rec (motive:=fun _=>GW) (fun ob v=>Option.rec (motive:=fun _=>GW) .no (fun s1=>wRun r E cl rnd base n (dputW p v t) g s1 effs gs loads k) (hput s (Nat.add base x.i) ob)) q) (runMK (cmpMK E.C x.o) x.o E t (Nat.add base x.i)):GW)= .mk t' s' effs' gs' loads':=hk
      cases hmk:runMK (cmpMK E.C x.o) x.o E t (Nat.add base x.i) with
      |none=>rw [hmk] at hk;cases hk
      |some q=>
       obtain ⟨ob,v⟩:=q
       simp only [hmk] at hk
       have ha:=runMK_ok hmk
       rw [←envR_ev hB] at ha
       have ha':eal E.C (evT E.C B) x.o (base+x.i)=some (ob,v):=ha
       simp only [ha']
       cases hpp:hput s (Nat.add base x.i) ob with
       |none=>rw [hpp] at hk;cases hk
       |some s1=>
        have hp':aput s (base+x.i) (some ob)=some s1:=hput_ok hpp
        simp only [hpp] at hk
        simp only [hp']
        exact wRun_ok hC hc hr l hrr hk (cmpWD_ok hp hB v) hlo
     ·rename_i hk0 hk1
      have hk: (RW.rec (motive:=fun _=>GW) .no (fun t1 s1=>Bool.rec (motive:=fun _=>GW) .no (Bool.rec (motive:=fun _=>GW) .no (wRun r E cl rnd base n t1 s1 s1 (effs++ [(x.i,k)]) (gs++ [s1]) loads (Nat.succ k)) (freeAll s1 base (alOf l))) (Nat.ble (Nat.add base n) s1.n)) (runS (cmpS E.C E.P x.o p) wEnd E cl rnd t s):GW)= .mk t' s' effs' gs' loads':=hk
      cases hrun:runS (cmpS E.C E.P x.o p) wEnd E cl rnd t s with
      |no=>rw [hrun] at hk;cases hk
      |mk t1 s1=>
       rw [hrun] at hk
       simp only at hk
       obtain ⟨v,h1,rfl⟩:=wEnd_ok (cmpS_ok hC x.o p) hrun
       rw [←envR_ev hB] at h1
       have h1:=fxo_mono hc hr h1
       cases hb:Nat.ble (Nat.add base n) s1.n with
       |false=>rw [hb] at hk;cases hk
       |true=>
        cases hfr:freeAll s1 base (alOf l) with
        |false=>simp only [hb,hfr] at hk;cases hk
        |true=>
         simp only [hb,hfr] at hk
         split
         ·rename_i hkk;exact absurd hkk hk0
         ·rename_i hkk;exact absurd hkk hk1
         ·rw [h1]
          simp only
          rw [if_pos ⟨Nat.le_of_ble_eq_true hb,freeAll_ok hfr⟩]
          exact wRun_ok hC hc hr l hrr hk (cmpWD_ok hp hB v) hlo
   ·cases hy
  ·cases h
def veqP (n:Nat) (v u:Value):Bool:=IV.rec (motive:=fun _=>Bool) (PV.rec (motive:=fun _=>Bool) (Option.rec (motive:=fun _=>Bool) (veq (Nat.succ n) v u) (fun a=>Option.rec (motive:=fun _=>Bool) false (fun b=>leqB a b) (xStr u)) (xStr v)) (fun k o=>PV.rec (motive:=fun _=>Bool) false (fun k' o'=>Bool.rec (motive:=fun _=>Bool) false (Nat.beq o o') (Nat.beq k k')) (xPtr u)) (xPtr v)) (fun k m=>IV.rec (motive:=fun _=>Bool) false (fun k' m'=>Bool.rec (motive:=fun _=>Bool) false (Nat.beq m m') (Nat.beq (kidx k) (kidx k'))) (xInt u)) (xInt v)
theorem veqP_ok {n:Nat} {v u:Value} (h:veqP n v u=true):veq (n+1) v u=true:=by
 unfold veqP at h
 cases h1:xInt v with
 |nat k m=>
  rw [h1] at h
  cases h2:xInt u with
  |no=>simp only [h2] at h;cases h
  |nat k' m'=>
   simp only [h2] at h
   cases h3:Nat.beq (kidx k) (kidx k') with
   |false=>simp only [h3] at h;cases h
   |true=>
    simp only [h3] at h
    rw [xInt_ok h1,xInt_ok h2,kidx_inj h3,Nat.eq_of_beq_eq_true h]
    simp [veq]
 |no=>
  rw [h1] at h
  cases h2:xPtr v with
  |no=>
   simp only [h2] at h
   cases h3:xStr v with
   |none=>simp only [h3] at h;exact h
   |some a=>
    simp only [h3] at h
    cases h4:xStr u with
    |none=>simp only [h4] at h;cases h
    |some b=>
     simp only [h4] at h
     obtain ⟨x,rfl,rfl⟩:=xStr_ok h3
     obtain ⟨y,rfl,rfl⟩:=xStr_ok h4
     rw [leqB_eq] at h
     have e:=eq_of_beq h
     have:x=y:=by
      obtain ⟨x⟩:=x
      obtain ⟨y⟩:=y
      exact congrArg ByteArray.mk (Array.ext' e)
     simp [veq,this]
  |at_ k o=>
   simp only [h2] at h
   cases h3:xPtr u with
   |no=>simp only [h3] at h;cases h
   |at_ k' o'=>
    simp only [h3] at h
    cases h4:Nat.beq k k' with
    |false=>simp only [h4] at h;cases h
    |true=>
     simp only [h4] at h
     rw [xPtr_ok h2,xPtr_ok h3,Nat.eq_of_beq_eq_true h,Nat.eq_of_beq_eq_true h4]
     simp [veq]
def veqLs (n:Nat):List Value→List Value→Bool:=List.rec (motive:=fun _=>List Value→Bool) (fun m=>List.rec (motive:=fun _=>Bool) true (fun _ _ _=>false) m) (fun x _ ih m=>List.rec (motive:=fun _=>Bool) false (fun y r _=>Bool.rec (motive:=fun _=>Bool) false (ih r) (veqP n x y)) m)
theorem veqLs_ok {n:Nat}: ∀ (a b:List Value),veqLs n a b=true→leq (veq (n+1)) a b=true
 | [], [],_=>rfl
 | [],_::_,h=>by cases h
 |_::_, [],h=>by cases h
 |x::a,y::b,h=>by
  have h': (Bool.rec (motive:=fun _=>Bool) false (veqLs n a b) (veqP n x y):Bool)=true:=h
  cases h1:veqP n x y with
  |false=>rw [h1] at h';cases h'
  |true=>
   rw [h1] at h'
   simp only [leq,veqP_ok h1,veqLs_ok a b h',Bool.and_self]
def veqA (v u:Value):Bool:=Option.rec (motive:=fun _=>Bool) (veqP 7 v u) (fun a=>Option.rec (motive:=fun _=>Bool) false (fun b=>veqLs 6 a b) (xAgg u)) (xAgg v)
theorem veqA_ok {v u:Value} (h:veqA v u=true):veq 8 v u=true:=by
 unfold veqA at h
 cases h1:xAgg v with
 |none=>rw [h1] at h;exact veqP_ok h
 |some a=>
  rw [h1] at h
  cases h2:xAgg u with
  |none=>simp only [h2] at h;cases h
  |some b=>
   simp only [h2] at h
   obtain ⟨x,rfl,rfl⟩:=xAgg_ok h1
   obtain ⟨y,rfl,rfl⟩:=xAgg_ok h2
   simp only [veq]
   exact veqLs_ok _ _ h
def wpEq:WD→EV→EV→Bool:=WD.rec (motive:=fun _=>EV→EV→Bool) (fun _ _=>false) (fun hi lo t t'=>veqA (wget hi lo t) (wget hi lo t'))
theorem wpEq_ok {p:WD} {u v:Value} {t t2:EV} (h:wpEq p (dputW p u t) (dputW p v t2)=true):veqA u v=true:=by
 cases p with
 |no=>cases h
 |at_ hi lo=>
  have h:veqA (wget hi lo (wput hi lo u t)) (wget hi lo (wput hi lo v t2))=true:=h
  simp only [wget,wput_eq,get_mod16,get_put16,if_pos] at h
  exact h
def stayW (σ:SI) (p:WD) (i:Nat) (t t':EV) (m:Nat) (M:List Nat) (effs:List (Nat × Nat)) (E:Env) (cl:FCl) (rnd:RND) (gs:List AS):Nat→Bool:=List.rec (motive:=fun _=>Nat→Bool) (fun _=>true) (fun g _ ih k=>
 Bool.rec (motive:=fun _=>Bool) (ih (Nat.succ k)) (RW.rec (motive:=fun _=>Bool) false (fun t2 _=>Bool.rec (motive:=fun _=>Bool) false (ih (Nat.succ k)) (wpEq p t2 t')) (runS σ wEnd E cl rnd t g)) (mayAt m M i k effs)) gs
theorem stayW_ok {E:Env} (hC:E.C.ok E.P) {cl:FCl} {rnd:RND} {x:FO} {t t':EV} {B:T Value} {p:WD} {v:Value} {M:List Nat} {effs:List (Nat × Nat)} (hB:envR t B) (ht:t'=dputW p v t) (hk:kindOf x.o=0): ∀ (gs:List AS) (k:Nat),stayW (cmpS E.C E.P x.o p) p x.i t t' (M.getD x.i 0) M effs E cl rnd gs k=true→
  (gs.zipIdx k).all (fun (g,k)=> !(effs.all fun (e,q)=>(!(M.getD x.i 0).testBit e ||decide (q<k))&& (!(M.getD e 0).testBit x.i ||decide (k≤q)))|| (match fop E.C E.P (evT E.C B) g x.o with
   |some (u,_)=>veq 8 u v
   |none=>false))=true
 | [],_,_=>rfl
 |g::gs,k,h=>by
  have h': (Bool.rec (motive:=fun _=>Bool) (stayW (cmpS E.C E.P x.o p) p x.i t t' (M.getD x.i 0) M effs E cl rnd gs (Nat.succ k)) (RW.rec (motive:=fun _=>Bool) false (fun t2 _=>Bool.rec (motive:=fun _=>Bool) false (stayW (cmpS E.C E.P x.o p) p x.i t t' (M.getD x.i 0) M effs E cl rnd gs (Nat.succ k)) (wpEq p t2 t')) (runS (cmpS E.C E.P x.o p) wEnd E cl rnd t g)) (mayAt (M.getD x.i 0) M x.i k effs):Bool)=true:=h
  rw [List.zipIdx_cons,List.all_cons,Bool.and_eq_true]
  rw [mayAt_eq] at h'
  simp only
  cases hm: (effs.all fun (e,q)=>(!(M.getD x.i 0).testBit e ||decide (q<k))&& (!(M.getD e 0).testBit x.i ||decide (k≤q))) with
  |false=>
   rw [hm] at h'
   exact ⟨by simp,stayW_ok hC hB ht hk gs (k+1) h'⟩
  |true=>
   rw [hm] at h'
   cases hr:runS (cmpS E.C E.P x.o p) wEnd E cl rnd t g with
   |no=>simp only [hr] at h';cases h'
   |mk t2 s2=>
    obtain ⟨u,h1,rfl⟩:=wEnd_ok (cmpS_ok hC x.o p) hr
    rw [fxo_look hk, ←envR_ev hB] at h1
    simp only [hr] at h'
    cases hv:wpEq p (dputW p u t) t' with
    |false=>simp only [hv] at h';cases h'
    |true=>
     simp only [hv] at h'
     refine ⟨?_,stayW_ok hC hB ht hk gs (k+1) h'⟩
     rw [ht] at hv
     rw [h1]
     simp [veqA_ok (wpEq_ok hv)]
def staysW (M:List Nat) (effs:List (Nat × Nat)) (gs:List AS) (E:Env) (cl:FCl) (rnd:RND) (l:List LW):Bool:=List.rec (motive:=fun _=>Bool) true (fun q _ ih=>LW.rec (motive:=fun _=>Bool) (fun σ p i t t'=>Bool.rec (motive:=fun _=>Bool) false ih (stayW σ p i t t' (lgetD M i) M effs E cl rnd gs 0)) q) l
theorem staysW_ok {E:Env} (hC:E.C.ok E.P) {cl:FCl} {rnd:RND} {M:List Nat} {effs:List (Nat × Nat)} {gs:List AS}: ∀ (l:List LW) (lo:List (FO × T Value × Value)),LRels E.C E.P l lo→staysW M effs gs E cl rnd l=true→lo.all (fstay E.C E.P M effs gs)=true
 | [], [],_,_=>rfl
 | [],_::_,hq,_=>hq.elim
 |_::_, [],hq,_=>hq.elim
 |q::l,z::lo,hq,h=>by
  obtain ⟨σ,p,i,t,t'⟩:=q
  obtain ⟨⟨rfl,rfl,hB,ht,hk⟩,hq⟩:=hq
  have h': (Bool.rec (motive:=fun _=>Bool) false (staysW M effs gs E cl rnd l) (stayW (cmpS E.C E.P z.1.o p) p z.1.i t t' (lgetD M z.1.i) M effs E cl rnd gs 0):Bool)=true:=h
  cases h2:stayW (cmpS E.C E.P z.1.o p) p z.1.i t t' (lgetD M z.1.i) M effs E cl rnd gs 0 with
  |false=>simp only [h2] at h';cases h'
  |true=>
   simp only [h2] at h'
   rw [List.all_cons,Bool.and_eq_true]
   refine ⟨?_,staysW_ok hC l lo hq h'⟩
   rw [lgetD_eq] at h2
   exact stayW_ok hC hB ht hk gs 0 h2
inductive DW where
 |mk (M:List Nat) (l:List CRW) (n:Nat)
def cmpDW (C:Cfg) (P:Program) (ops:Array Oper) (sz:Nat):Option DW:=match drwOf ops sz with
 |some D=>match cmpRWs C P D.sq with
  |some l=>some (.mk D.M l ops.size)
  |none=>none
 |none=>none
def wDraw (E:Env) (cl:FCl) (rnd:RND) (ops:Array Oper) (sz:Nat) (t:EV) (s:AS):RW:=Option.rec (motive:=fun _=>RW) .no (fun d=>DW.rec (motive:=fun _=>RW) (fun M l n=>AS.rec (motive:=fun _=>RW) (fun h b=>
 GW.rec (motive:=fun _=>RW) .no (fun t' s' effs gs loads=>Bool.rec (motive:=fun _=>RW) .no (.mk t' s') (staysW M effs gs E cl rnd loads)) (wRun l E cl rnd b n t ⟨h,Nat.add b n⟩ ⟨h,Nat.add b n⟩ [] [⟨h,Nat.add b n⟩] [] 0)) s) d) (cmpDW (Env.C E) (Env.P E) ops sz)
theorem wDraw_ok {E:Env} (hC:E.C.ok E.P) {cl cl':FCl} {rnd rnd':RND} (hc:CallLe cl cl') (hr:RndLe rnd rnd') {ops:Array Oper} {sz:Nat} {t t':EV} {s s':AS} (h:wDraw E cl rnd ops sz t s= .mk t' s') {B:T Value} (hB:envR t B): ∃B',envR t' B'∧fDraw E.C E.P (fxo E cl' rnd') ops sz B s=some (B',s'):=by
 unfold wDraw at h
 cases hd:cmpDW E.C E.P ops sz with
 |none=>simp only [hd] at h;cases h
 |some d=>
  simp only [hd] at h
  unfold cmpDW at hd
  split at hd
  ·rename_i D hD
   split at hd
   ·rename_i l hl
    cases hd
    obtain ⟨hh,b⟩:=s
    simp only at h
    cases hg:wRun l E cl rnd b ops.size t ⟨hh,Nat.add b ops.size⟩ ⟨hh,Nat.add b ops.size⟩ [] [⟨hh,Nat.add b ops.size⟩] [] 0 with
    |no=>rw [hg] at h;cases h
    |mk t1 s1 effs gs loads=>
     rw [hg] at h
     simp only at h
     cases hs:staysW D.M effs gs E cl rnd loads with
     |false=>rw [hs] at h;cases h
     |true=>
      rw [hs] at h
      cases h
      obtain ⟨B',lo',h1,h2,h3⟩:=wRun_ok hC hc hr D.sq hl hg hB (lo:= []) trivial
      have h3:fRun E.C E.P (fxo E cl' rnd') b ops.size D.sq B ⟨hh,b+ops.size⟩ ⟨hh,b+ops.size⟩ [] [⟨hh,b+ops.size⟩] [] 0=some ⟨B',s',effs,gs,lo'⟩:=h3
      refine ⟨B',h1,?_⟩
      unfold fDraw
      rw [hD]
      simp only [h3]
      rw [if_pos (staysW_ok hC loads lo' h2 hs)]
   ·cases hd
  ·cases hd
end
end Go.Proofs.YtdcioacjhpnihaaGreatDoor
namespace Go.Proofs.YtdcioacjhpnihaaGreatDoor
open Go
noncomputable section
inductive GO where
 |no
 |mk (e:AX) (t:T Value) (d:List Deferred) (s:AS)
def GO.toO:GO→Option (AX × T Value × List Deferred × AS):=GO.rec (motive:=fun _=>Option (AX × T Value × List Deferred × AS)) none (fun e t d s=>some (e,t,d,s))
abbrev GCd:=Option Nat→Nat→Code→T Value→List Deferred→AS→GO
def toFC (gc:GCd):FCd:=fun ro sz c t d s=>GO.toO (gc ro sz c t d s)
theorem xRangeG_mono {E:Env} {cl cl':FCl} (hc:CallLe cl cl') {ro:Option Nat} {g:Operand} {ps:Array Tmp} {assign body:Code} {a:Act} {s:AS} {r:AX × Act × AS} (h:xRangeG E cl ro g ps assign body a s=some r):xRangeG E cl' ro g ps assign body a s=some r:=by
 unfold xRangeG at h ⊢
 cases h1:xBlock ro s with
 |none=>rw [h1] at h;cases h
 |some q=>
  obtain ⟨d,mark,s1⟩:=q
  rw [h1] at h
  simp only at h ⊢
  cases h2:anew s1 (.loop {state:= .ready,pending:=none,fn:=0,tmps:=a.tmps,params:=ps,assign,body,defers:=d}) with
  |none=>rw [h2] at h;cases h
  |some q=>
   obtain ⟨l,s2⟩:=q
   rw [h2] at h
   simp only at h ⊢
   cases h3:aev E.C a g with
   |none=>rw [h3] at h;cases h
   |some v=>
    cases v with
    |func fn fs cap=>
     cases fn with
     |func gf=>
      rw [h3] at h
      simp only at h ⊢
      by_cases h4:fs.isEmpty=true
      ·rw [if_pos h4] at h ⊢
       cases h5:cl gf (.func (.yield l) #[] #[] ::cap.toList) s2 with
       |none=>rw [h5] at h;cases h
       |some q=>
        rw [hc _ _ _ _ h5]
        rw [h5] at h
        exact h
      ·rw [if_neg h4] at h;cases h
     |_=>rw [h3] at h;cases h
    |_=>rw [h3] at h;cases h
def gArgs:List Value→Nat→T Value→T Value:=List.rec (motive:=fun _=>Nat→T Value→T Value) (fun _ t=>t) (fun v _ ih k t=>ih (Nat.succ k) (pput (pathOf k) (some v) t))
def gRes1 (E:Env) (sz:Nat) (t:T Value) (s:AS):ResultVar→Option Value:=ResultVar.rec (motive:=fun _=>Option Value) (fun k=>Bool.rec (motive:=fun _=>Option Value) none (pget (pathOf k) t) (Nat.ble (Nat.succ k) sz)) (fun k ty=>fResult E sz t s (.cell k ty))
def gRes (E:Env) (sz:Nat) (t:T Value) (s:AS):List ResultVar→Option (List Value):=List.rec (motive:=fun _=>Option (List Value)) (some []) (fun r _ ih=>Option.rec (motive:=fun _=>Option (List Value)) none (fun v=>Option.rec (motive:=fun _=>Option (List Value)) none (fun l=>some (v::l)) ih) (gRes1 E sz t s r))
def gPack:List Value→Value:=List.rec (motive:=fun _=>Value) (.tuple ⟨[]⟩) (fun v l _=>List.rec (motive:=fun _=>Value) v (fun u m _=> .tuple ⟨v::u::m⟩) l)
theorem gPack_eq: ∀ (l:List Value),gPack l=packV l
 | [] =>rfl
 | [_] =>rfl
 |_::_::_=>rfl
def gDefers (E:Env) (d:List Deferred) (s:AS):Option AS:=List.rec (motive:=fun _=>Option AS) (some s) (fun _ _ _=>xDefers E d s) d
theorem gDefers_eq (E:Env) (d:List Deferred) (s:AS):gDefers E d s=xDefers E d s:=by cases d<;>rfl
def gEnd (E:Env) (sz:Nat) (rs:List ResultVar) (t:T Value) (d:List Deferred) (s:AS):Option (Value × AS):=
 Option.rec (motive:=fun _=>Option (Value × AS)) none (fun s2=>Option.rec (motive:=fun _=>Option (Value × AS)) none (fun vs=>some (gPack vs,s2)) (gRes E sz t s2 rs)) (gDefers E d s)
def gBody (E:Env) (gc:GCd) (sz:Nat) (rs:List ResultVar) (c:Code) (args:List Value) (s:AS):Option (Value × AS):=
 Bool.rec (motive:=fun _=>Option (Value × AS)) none (Bool.rec (motive:=fun _=>Option (Value × AS)) none (GO.rec (motive:=fun _=>Option (Value × AS)) none (fun e t d s1=>AX.rec (motive:=fun _=>Option (Value × AS)) (gEnd E sz rs t d s1) (fun _=>none) (gEnd E sz rs t d s1) e)
  (gc none sz c (gArgs args 0 .leaf) [] s)) (Nat.ble sz 100000)) (Nat.ble (llen args) sz)
def gCall (E:Env) (gc:GCd):FCl:=fun f args s=>Option.rec (motive:=fun _=>Option (Value × AS)) (Option.rec (motive:=fun _=>Option (Value × AS)) none (fun fn=>Option.rec (motive:=fun _=>Option (Value × AS)) none (fun c=>gBody E gc (Func.ntmps fn) (arrL (Func.results fn)) c args s) (Func.body fn)) (T.get (Env.fns E) f)) some (Env.orc E f args s)
abbrev ARM:=Env→GCd→Option Nat→Nat→T Value→List Deferred→AS→GO
def aSkip:ARM:=fun _ _ _ _ t d s=> .mk .normal t d s
def aNo:ARM:=fun _ _ _ _ _ _ _=> .no
def aScope (c:Code):ARM:=fun _ rc ro sz t d s=>rc ro sz c t d s
def aExit (id:Nat):ARM:=fun _ _ _ _ t d s=> .mk (.exit id) t d s
def aRet:ARM:=fun _ _ _ _ t d s=> .mk .ret t d s
def aSeq (x y:Code):ARM:=fun _ rc ro sz t d s=>GO.rec (motive:=fun _=>GO) .no (fun e t' d' s'=>AX.rec (motive:=fun _=>GO) (rc ro sz y t' d' s') (fun id=> .mk (.exit id) t' d' s') (.mk .ret t' d' s') e) (rc ro sz x t d s)
def condF (C:Cfg) (sz:Nat) (c:Operand):Option FOp:=Bool.rec (motive:=fun _=>Option FOp) none (cmpF C c) (tmpOk sz c)
def aCond (c:Operand) (x y:Code):ARM:=fun E rc ro sz t d s=>Option.rec (motive:=fun _=>GO) .no (fun a=>Option.rec (motive:=fun _=>GO) .no (fun v=>Option.rec (motive:=fun _=>GO) .no (fun b=>rc ro sz (Bool.rec (motive:=fun _=>Code) y x b) t d s) (xBool v)) (evF a t)) (condF (Env.C E) sz c)
def aBlock (id:Nat) (c:Code):ARM:=fun _ rc ro sz t d s=>GO.rec (motive:=fun _=>GO) .no (fun e t' d' s'=>AX.rec (motive:=fun _=>GO) (.mk .normal t' d' s') (fun j=>Bool.rec (motive:=fun _=>GO) (.mk (.exit j) t' d' s') (.mk .normal t' d' s') (Nat.beq j id)) (.mk .ret t' d' s') e) (rc ro sz c t d s)
def aLoop (c:Code):ARM:=fun _ rc ro sz t d s=>GO.rec (motive:=fun _=>GO) .no (fun e t' d' s'=>AX.rec (motive:=fun _=>GO) (rc ro sz (.loop c) t' d' s') (fun id=> .mk (.exit id) t' d' s') (.mk .ret t' d' s') e) (rc ro sz c t d s)
def aDraw (ops:Array Oper):ARM:=fun E rc _ sz t d s=>RS.rec (motive:=fun _=>GO) .no (fun t' s'=> .mk .normal t' d s') (gDraw E (gCall E rc) (fRound (toFC rc)) ops sz t s)
def aOps (ops:Array Oper):ARM:=fun E rc ro sz t d s=>Option.rec (motive:=fun _=>GO) (Option.rec (motive:=fun _=>GO) .no (fun r=>Prod.rec (motive:=fun _=>GO) (fun e q=>Prod.rec (motive:=fun _=>GO) (fun t' q=>Prod.rec (motive:=fun _=>GO) (fun d' s'=> .mk e t' d' s') q) q) r) (cOps E (toFC rc) ro sz ops t d s)) (fun l=>RO.rec (motive:=fun _=>GO) .no (fun t' d' s'=> .mk .normal t' d' s') (gOps l E (gCall E rc) (fRound (toFC rc)) t d s)) (cmpOps (Env.C E) ops sz)
def aRegion (ops:Array Oper) (draw:Bool):ARM:=Bool.rec (motive:=fun _=>ARM) (aOps ops) (aDraw ops) draw
def aRange (g:Operand) (ps:Array Tmp) (assign body:Code):ARM:=fun E rc ro sz t d s=>Option.rec (motive:=fun _=>GO) .no (fun r=>Prod.rec (motive:=fun _=>GO) (fun e q=>Prod.rec (motive:=fun _=>GO) (fun a' s'=> .mk e t (Act.defers a') s') q) r) (xRangeG E (gCall E rc) ro g ps assign body (toAct t sz d) s)
def arm:Code→ARM:=Code.rec (motive:=fun _=>ARM) aSkip (fun _ ops draw=>aRegion ops draw) (fun x y _ _=>aSeq x y) (fun c x y _ _=>aCond c x y) (fun id c _=>aBlock id c) (fun c _=>aLoop c) (fun g ps as b _ _=>aRange g ps as b) aExit (fun c _=>aScope c) (fun _=>aSkip) (fun _=>aNo) aRet (fun _=>aNo)
end
end Go.Proofs.YtdcioacjhpnihaaGreatDoor
namespace Go.Proofs.YtdcioacjhpnihaaGreatDoor
open Go
noncomputable section
inductive GE where
 |no
 |mk (e:AX) (t:EV) (d:List Deferred) (s:AS)
abbrev WCd:=Option Nat→Nat→Code→EV→List Deferred→AS→GE
def WcOk (wc:WCd) (fc:FCd):Prop:= ∀ro sz c t d s e t' d' s',wc ro sz c t d s= .mk e t' d' s'→ ∀B,envR t B→ ∃B',envR t' B'∧fc ro sz c B d s=some (e,B',d',s')
def eArgs:List Value→Nat→EV→EV:=List.rec (motive:=fun _=>Nat→EV→EV) (fun _ t=>t) (fun v _ ih k t=>ih (Nat.succ k) (wput (toI (Nat.div k 16)) (toI (Nat.mod k 16)) v t))
theorem eArgs_ok: ∀ (l:List Value) (k:Nat) (t:EV) (B:T Value),k+l.length≤256→envR t B→envR (eArgs l k t) (ofL l k B)
 | [],_,_,_,_,hB=>hB
 |v::l,k,t,B,h,hB=>by
  simp only [List.length_cons] at h
  exact eArgs_ok l (k+1) _ _ (by omega) (envR_put hB (by omega) v)
def wRes1 (E:Env) (sz:Nat) (t:EV) (s:AS):ResultVar→Option Value:=ResultVar.rec (motive:=fun _=>Option Value) (fun k=>Bool.rec (motive:=fun _=>Option Value) none (some (wget (toI (Nat.div k 16)) (toI (Nat.mod k 16)) t)) (Nat.ble (Nat.succ k) sz)) (fun k ty=>Bool.rec (motive:=fun _=>Option Value) none (aload (Env.C E) s ty (wget (toI (Nat.div k 16)) (toI (Nat.mod k 16)) t)) (Nat.ble (Nat.succ k) sz))
theorem wRes1_ok {E:Env} {sz:Nat} (hsz:sz≤256) {t:EV} {B:T Value} (hB:envR t B) {s:AS} {r:ResultVar} {v:Value} (h:wRes1 E sz t s r=some v):fResult E sz B s r=some v:=by
 cases r with
 |tmp k=>
  have h': (Bool.rec (motive:=fun _=>Option Value) none (some (wget (toI (k/16)) (toI (k%16)) t)) (Nat.ble (Nat.succ k) sz):Option Value)=some v:=h
  cases hb:Nat.ble (Nat.succ k) sz with
  |false=>rw [hb] at h';cases h'
  |true=>
   rw [hb] at h'
   have hk:=Nat.le_of_ble_eq_true hb
   have:=hB k
   rw [if_pos (by omega)] at this
   simp only [fResult,this]
   exact (if_pos (Nat.lt_of_succ_le hk)).trans h'
 |cell k ty=>
  have h': (Bool.rec (motive:=fun _=>Option Value) none (aload E.C s ty (wget (toI (k/16)) (toI (k%16)) t)) (Nat.ble (Nat.succ k) sz):Option Value)=some v:=h
  cases hb:Nat.ble (Nat.succ k) sz with
  |false=>rw [hb] at h';cases h'
  |true=>
   rw [hb] at h'
   have hk:=Nat.le_of_ble_eq_true hb
   have:=hB k
   rw [if_pos (by omega)] at this
   simp only [fResult,this]
   exact (if_pos (Nat.lt_of_succ_le hk)).trans h'
def wRes (E:Env) (sz:Nat) (t:EV) (s:AS):List ResultVar→Option (List Value):=List.rec (motive:=fun _=>Option (List Value)) (some []) (fun r _ ih=>Option.rec (motive:=fun _=>Option (List Value)) none (fun v=>Option.rec (motive:=fun _=>Option (List Value)) none (fun l=>some (v::l)) ih) (wRes1 E sz t s r))
theorem wRes_ok {E:Env} {sz:Nat} (hsz:sz≤256) {t:EV} {B:T Value} (hB:envR t B) {s:AS}: ∀ {l:List ResultVar} {vs:List Value},wRes E sz t s l=some vs→fResults E sz B s l=some vs
 | [],vs,h=>h
 |r::l,vs,h=>by
  have h': (Option.rec (motive:=fun _=>Option (List Value)) none (fun v=>Option.rec (motive:=fun _=>Option (List Value)) none (fun l=>some (v::l)) (wRes E sz t s l)) (wRes1 E sz t s r):Option (List Value))=some vs:=h
  obtain ⟨v,h1,h2⟩:=orec h'
  obtain ⟨us,h3,h4⟩:=orec h2
  cases h4
  simp only [fResults,wRes1_ok hsz hB h1,wRes_ok hsz hB h3]
def wFin (E:Env) (sz:Nat) (rs:List ResultVar) (t:EV) (d:List Deferred) (s:AS):Option (Value × AS):=
 Option.rec (motive:=fun _=>Option (Value × AS)) none (fun s2=>Option.rec (motive:=fun _=>Option (Value × AS)) none (fun vs=>some (gPack vs,s2)) (wRes E sz t s2 rs)) (gDefers E d s)
def wBody (E:Env) (wc:WCd) (sz:Nat) (rs:List ResultVar) (c:Code) (args:List Value) (s:AS):Option (Value × AS):=
 Bool.rec (motive:=fun _=>Option (Value × AS)) none (Bool.rec (motive:=fun _=>Option (Value × AS)) none (GE.rec (motive:=fun _=>Option (Value × AS)) none (fun e t d s1=>AX.rec (motive:=fun _=>Option (Value × AS)) (wFin E sz rs t d s1) (fun _=>none) (wFin E sz rs t d s1) e)
  (wc none sz c (eArgs args 0 ev0) [] s)) (Nat.ble sz 256)) (Nat.ble (llen args) sz)
def wCall (E:Env) (wc:WCd):FCl:=fun f args s=>Option.rec (motive:=fun _=>Option (Value × AS)) (Option.rec (motive:=fun _=>Option (Value × AS)) none (fun fn=>Option.rec (motive:=fun _=>Option (Value × AS)) none (fun c=>wBody E wc (Func.ntmps fn) (arrL (Func.results fn)) c args s) (Func.body fn)) (T.get (Env.fns E) f)) some (Env.orc E f args s)
theorem wCall_ok {E:Env} {wc:WCd} {fc:FCd} (h:WcOk wc fc):CallLe (wCall E wc) (fCall E fc):=by
 intro f args s r hr
 unfold wCall at hr
 unfold fCall
 cases h1:E.orc f args s with
 |some q=>rw [h1] at hr;exact hr
 |none=>
  rw [h1] at hr
  simp only at hr ⊢
  obtain ⟨fn,h2,h3⟩:=orec hr
  obtain ⟨c,h4,h5⟩:=orec h3
  rw [h2]
  simp only
  rw [h4]
  simp only
  unfold wBody at h5
  cases hb1:Nat.ble (llen args) fn.ntmps with
  |false=>rw [hb1] at h5;cases h5
  |true=>
   cases hb2:Nat.ble fn.ntmps 256 with
   |false=>simp only [hb1,hb2] at h5;cases h5
   |true=>
    simp only [hb1,hb2] at h5
    have k1:=Nat.le_of_ble_eq_true hb1
    have k2:=Nat.le_of_ble_eq_true hb2
    rw [llen_eq] at k1
    unfold fBody
    rw [if_pos ⟨k1,by omega⟩]
    have hB:=eArgs_ok args 0 ev0 .leaf (by omega) envR_leaf
    have fin: ∀ (t:EV) (B:T Value) (d:List Deferred) (s1:AS),envR t B→wFin E fn.ntmps (arrL fn.results) t d s1=some r→(match xDefers E d s1 with
      |some s2=>match fResults E fn.ntmps B s2 fn.results.toList with
       |some vs=>some (packV vs,s2)
       |none=>none
      |none=>none)=some r:=fun t B d s1 hB he=>by
     obtain ⟨s2,e1,e2⟩:=orec he
     obtain ⟨vs,e3,e4⟩:=orec e2
     cases e4
     rw [gDefers_eq] at e1
     rw [arrL_eq] at e3
     simp only [e1,wRes_ok k2 hB e3,gPack_eq]
    cases hg:wc none fn.ntmps c (eArgs args 0 ev0) [] s with
    |no=>rw [hg] at h5;cases h5
    |mk e t d s1=>
     obtain ⟨B',hB',hfc⟩:=h _ _ _ _ _ _ _ _ _ _ hg _ hB
     rw [hg] at h5
     rw [hfc]
     cases e with
     |normal=>exact fin t B' d s1 hB' h5
     |ret=>exact fin t B' d s1 hB' h5
     |exit id=>cases h5
def wRound (wc:WCd):RND:=fun l args s=>match s.h.get l with
 |some (.loop r)=>if args.length=r.params.size∧r.tmps.size≤256 then (match wc (some l) r.tmps.size r.assign (eArgs (setAll r.tmps (r.params.toList.zip args)).toList 0 ev0) [] s with
  | .mk .normal t1 d1 s1=>match s1.h.get l with
   |some (.loop r1)=>if r1.state= .ready then (match aput s1 l (some (.loop {r1 with state:= .busy})) with
    |some s2=>match wc (some l) r.tmps.size r.body t1 d1 s2 with
     | .mk e _ _ s3=>match s3.h.get l with
      |some (.loop r3)=>match aput s3 l (some (.loop {r3 with state:=if (jumpOf e).isNone then .ready else .done,pending:=jumpOf e})) with
       |some s4=>some (.bool (jumpOf e).isNone,s4)
       |none=>none
      |_=>none
     | .no=>none
    |none=>none) else none
   |_=>none
  |_=>none) else none
 |_=>none
theorem setAll_size: ∀ (x:List (Tmp × Value)) (t:Array Value),(setAll t x).size=t.size
 | [],_=>rfl
 |y::x,t=>by simp only [setAll];rw [setAll_size x];simp
theorem wRound_ok {wc:WCd} {fc:FCd} (h:WcOk wc fc):RndLe (wRound wc) (fRound fc):=by
 intro l args s r hr
 unfold wRound at hr
 unfold fRound
 split at hr
 ·rename_i r0 h1
  rw [h1]
  simp only
  split at hr
  ·rename_i h2
   rw [if_pos ⟨h2.1,by omega⟩]
   have hB:=eArgs_ok (setAll r0.tmps (r0.params.toList.zip args)).toList 0 ev0 .leaf (by simp [setAll_size];omega) envR_leaf
   split at hr
   ·rename_i t1 d1 s1 h3
    obtain ⟨B1,hB1,h4⟩:=h _ _ _ _ _ _ _ _ _ _ h3 _ hB
    rw [h4]
    simp only
    split at hr
    ·rename_i r1 h5
     rw [h5]
     simp only
     split at hr
     ·rename_i h6
      rw [if_pos h6]
      split at hr
      ·rename_i s2 h7
       rw [h7]
       simp only
       split at hr
       ·rename_i e t2 d2 s3 h8
        obtain ⟨B2,hB2,h9⟩:=h _ _ _ _ _ _ _ _ _ _ h8 _ hB1
        rw [h9]
        exact hr
       ·cases hr
      ·cases hr
     ·cases hr
    ·cases hr
   ·cases hr
  ·cases hr
 ·cases hr
def wArr (t:EV) (sz:Nat):Array Value:=⟨(List.range sz).map fun k=>wget (toI (Nat.div k 16)) (toI (Nat.mod k 16)) t⟩
theorem wArr_ok {t:EV} {B:T Value} (hB:envR t B) {sz:Nat} (hsz:sz≤256) (d:List Deferred): (⟨wArr t sz,d⟩:Act)=toAct B sz d:=by
 unfold wArr toAct
 congr 2
 refine List.map_congr_left fun k hk=> ?_
 have:=hB k
 rw [if_pos (by have:=List.mem_range.1 hk;omega)] at this
 exact this.symm
abbrev WARM:=Env→WCd→Option Nat→Nat→EV→List Deferred→AS→GE
def bSkip:WARM:=fun _ _ _ _ t d s=> .mk .normal t d s
def bNo:WARM:=fun _ _ _ _ _ _ _=> .no
def bScope (c:Code):WARM:=fun _ rc ro sz t d s=>rc ro sz c t d s
def bExit (id:Nat):WARM:=fun _ _ _ _ t d s=> .mk (.exit id) t d s
def bRet:WARM:=fun _ _ _ _ t d s=> .mk .ret t d s
def bSeq (x y:Code):WARM:=fun _ rc ro sz t d s=>GE.rec (motive:=fun _=>GE) .no (fun e t' d' s'=>AX.rec (motive:=fun _=>GE) (rc ro sz y t' d' s') (fun id=> .mk (.exit id) t' d' s') (.mk .ret t' d' s') e) (rc ro sz x t d s)
def condW (C:Cfg) (sz:Nat) (c:Operand):Option WOp:=Bool.rec (motive:=fun _=>Option WOp) none (cmpW C c) (tmpOk sz c)
def bCond (c:Operand) (x y:Code):WARM:=fun E rc ro sz t d s=>Option.rec (motive:=fun _=>GE) .no (fun a=>Option.rec (motive:=fun _=>GE) .no (fun b=>Bool.rec (motive:=fun _=>GE) (rc ro sz y t d s) (rc ro sz x t d s) b) (xBool (fget a t))) (condW (Env.C E) sz c)
def bBlock (id:Nat) (c:Code):WARM:=fun _ rc ro sz t d s=>GE.rec (motive:=fun _=>GE) .no (fun e t' d' s'=>AX.rec (motive:=fun _=>GE) (.mk .normal t' d' s') (fun j=>Bool.rec (motive:=fun _=>GE) (.mk (.exit j) t' d' s') (.mk .normal t' d' s') (Nat.beq j id)) (.mk .ret t' d' s') e) (rc ro sz c t d s)
def bLoop (c:Code):WARM:=fun _ rc ro sz t d s=>GE.rec (motive:=fun _=>GE) .no (fun e t' d' s'=>AX.rec (motive:=fun _=>GE) (rc ro sz (.loop c) t' d' s') (fun id=> .mk (.exit id) t' d' s') (.mk .ret t' d' s') e) (rc ro sz c t d s)
def bDraw (ops:Array Oper):WARM:=fun E rc _ sz t d s=>RW.rec (motive:=fun _=>GE) .no (fun t' s'=> .mk .normal t' d s') (wDraw E (wCall E rc) (wRound rc) ops sz t s)
def bOW (x:OW):WARM:=OW.rec (motive:=fun _=>WARM) (fun l E rc _ _ t d s=>RW.rec (motive:=fun _=>GE) .no (fun t' s'=> .mk .normal t' d s') (wOps l E (wCall E rc) (wRound rc) t s))
 (fun l E rc ro _ t d s=>Option.rec (motive:=fun _=>GE) (RD.rec (motive:=fun _=>GE) .no (fun t' d' s'=> .mk .normal t' d' s') (dOps l E (wCall E rc) (wRound rc) t d s)) (fun _=> .no) ro) x
def bOps (ops:Array Oper):WARM:=fun E rc ro sz t d s=>Option.rec (motive:=fun _=>GE) .no (fun x=>bOW x E rc ro sz t d s) (cmpOpsW (Env.C E) (Env.P E) ops sz)
def bRegion (ops:Array Oper) (draw:Bool):WARM:=Bool.rec (motive:=fun _=>WARM) (bOps ops) (bDraw ops) draw
def bRange (g:Operand) (ps:Array Tmp) (assign body:Code):WARM:=fun E rc ro sz t d s=>Bool.rec (motive:=fun _=>GE) .no (Option.rec (motive:=fun _=>GE) .no (fun r=>Prod.rec (motive:=fun _=>GE) (fun e q=>Prod.rec (motive:=fun _=>GE) (fun a' s'=> .mk e t (Act.defers a') s') q) r) (xRangeG E (wCall E rc) ro g ps assign body ⟨wArr t sz,d⟩ s)) (Nat.ble sz 256)
def warm:Code→WARM:=Code.rec (motive:=fun _=>WARM) bSkip (fun _ ops draw=>bRegion ops draw) (fun x y _ _=>bSeq x y) (fun c x y _ _=>bCond c x y) (fun id c _=>bBlock id c) (fun c _=>bLoop c) (fun g ps as b _ _=>bRange g ps as b) bExit (fun c _=>bScope c) (fun _=>bSkip) (fun _=>bNo) bRet (fun _=>bNo)
def wStep (E:Env) (rc:WCd):WCd:=fun ro sz c t d s=>warm c E rc ro sz t d s
def wCode (E:Env) (n:Nat):WCd:=Nat.rec (motive:=fun _=>WCd) (fun _ _ _ _ _ _=> .no) (fun _ ih=>wStep E ih) n
theorem gerec {g:GE} {f:AX→EV→List Deferred→AS→GE} {e:AX} {t:EV} {d:List Deferred} {s:AS} (h: (GE.rec (motive:=fun _=>GE) .no f g:GE)= .mk e t d s): ∃e' t' d' s',g= .mk e' t' d' s'∧f e' t' d' s'= .mk e t d s:=by
 cases g with
 |no=>cases h
 |mk e' t' d' s'=>exact ⟨e',t',d',s',rfl,h⟩
theorem oerec {α:Type} {o:Option α} {f:α→GE} {e:AX} {t:EV} {d:List Deferred} {s:AS} (h: (Option.rec (motive:=fun _=>GE) .no f o:GE)= .mk e t d s): ∃a,o=some a∧f a= .mk e t d s:=by
 cases o with
 |none=>cases h
 |some a=>exact ⟨a,rfl,h⟩
theorem rwrec {g:RW} {f:EV→AS→GE} {e:AX} {t:EV} {d:List Deferred} {s:AS} (h: (RW.rec (motive:=fun _=>GE) .no f g:GE)= .mk e t d s): ∃t' s',g= .mk t' s'∧f t' s'= .mk e t d s:=by
 cases g with
 |no=>cases h
 |mk t' s'=>exact ⟨t',s',rfl,h⟩
theorem wCode_ok {E:Env} (hC:E.C.ok E.P): ∀n,WcOk (wCode E n) (fCode E n)
 |0=>fun _ _ _ _ _ _ _ _ _ _ h=>by cases h
 |n+1=>by
  have ih:=wCode_ok hC n
  have ihc:=wCall_ok (E:=E) ih
  have ihr:=wRound_ok ih
  intro ro sz c t d s e t' d' s' h B hB
  have h:warm c E (wCode E n) ro sz t d s= .mk e t' d' s':=h
  rw [fCode_succ]
  cases c with
  |skip=>cases h;exact ⟨B,hB,rfl⟩
  |label l=>cases h;exact ⟨B,hB,rfl⟩
  |scope c=>exact ih _ _ _ _ _ _ _ _ _ _ h B hB
  |exit id=>cases h;exact ⟨B,hB,rfl⟩
  |ret=>cases h;exact ⟨B,hB,rfl⟩
  |seq x y=>
   obtain ⟨e1,t1,d1,s1,h1,h2⟩:=gerec (show (GE.rec (motive:=fun _=>GE) .no (fun e t' d' s'=>AX.rec (motive:=fun _=>GE) (wCode E n ro sz y t' d' s') (fun id=> .mk (.exit id) t' d' s') (.mk .ret t' d' s') e) (wCode E n ro sz x t d s):GE)= .mk e t' d' s' from h)
   obtain ⟨B1,hB1,h3⟩:=ih _ _ _ _ _ _ _ _ _ _ h1 B hB
   simp only [stepC,cSeq,h3]
   cases e1 with
   |normal=>exact ih _ _ _ _ _ _ _ _ _ _ h2 B1 hB1
   |exit id=>cases h2;exact ⟨B1,hB1,rfl⟩
   |ret=>cases h2;exact ⟨B1,hB1,rfl⟩
  |cond c x y=>
   obtain ⟨a,h1,h2⟩:=oerec (show (Option.rec (motive:=fun _=>GE) .no (fun a=>Option.rec (motive:=fun _=>GE) .no (fun b=>Bool.rec (motive:=fun _=>GE) (wCode E n ro sz y t d s) (wCode E n ro sz x t d s) b) (xBool (fget a t))) (condW E.C sz c):GE)= .mk e t' d' s' from h)
   obtain ⟨b,h5,h6⟩:=oerec h2
   unfold condW at h1
   cases ht:tmpOk sz c with
   |false=>rw [ht] at h1;cases h1
   |true=>
    rw [ht] at h1
    have hb:=xBool_ok h5
    have h7:evT E.C B c=some (.bool b):=by rw [envR_ev hB,cmpW_ok h1 t,hb]
    simp only [stepC,cCond,ht,if_true,h7]
    cases b with
    |false=>exact ih _ _ _ _ _ _ _ _ _ _ h6 B hB
    |true=>exact ih _ _ _ _ _ _ _ _ _ _ h6 B hB
  |block id c=>
   obtain ⟨e1,t1,d1,s1,h1,h2⟩:=gerec (show (GE.rec (motive:=fun _=>GE) .no (fun e t' d' s'=>AX.rec (motive:=fun _=>GE) (.mk .normal t' d' s') (fun j=>Bool.rec (motive:=fun _=>GE) (.mk (.exit j) t' d' s') (.mk .normal t' d' s') (Nat.beq j id)) (.mk .ret t' d' s') e) (wCode E n ro sz c t d s):GE)= .mk e t' d' s' from h)
   obtain ⟨B1,hB1,h3⟩:=ih _ _ _ _ _ _ _ _ _ _ h1 B hB
   simp only [stepC,cBlock,h3]
   cases e1 with
   |normal=>cases h2;exact ⟨B1,hB1,rfl⟩
   |ret=>cases h2;exact ⟨B1,hB1,rfl⟩
   |exit j=>
    simp only at h2 ⊢
    cases hb:Nat.beq j id with
    |false=>
     rw [hb] at h2
     cases h2
     rw [if_neg (fun e=>by subst e;rw [Nat.beq_refl] at hb;cases hb)]
     exact ⟨B1,hB1,rfl⟩
    |true=>
     rw [hb] at h2
     cases h2
     rw [if_pos (Nat.eq_of_beq_eq_true hb)]
     exact ⟨B1,hB1,rfl⟩
  |loop c=>
   obtain ⟨e1,t1,d1,s1,h1,h2⟩:=gerec (show (GE.rec (motive:=fun _=>GE) .no (fun e t' d' s'=>AX.rec (motive:=fun _=>GE) (wCode E n ro sz (.loop c) t' d' s') (fun id=> .mk (.exit id) t' d' s') (.mk .ret t' d' s') e) (wCode E n ro sz c t d s):GE)= .mk e t' d' s' from h)
   obtain ⟨B1,hB1,h3⟩:=ih _ _ _ _ _ _ _ _ _ _ h1 B hB
   simp only [stepC,cLoop,h3]
   cases e1 with
   |normal=>exact ih _ _ _ _ _ _ _ _ _ _ h2 B1 hB1
   |exit id=>cases h2;exact ⟨B1,hB1,rfl⟩
   |ret=>cases h2;exact ⟨B1,hB1,rfl⟩
  |region id ops draw=>
   cases draw with
   |true=>
    obtain ⟨t1,s1,h1,h2⟩:=rwrec (show (RW.rec (motive:=fun _=>GE) .no (fun t' s'=> .mk .normal t' d s') (wDraw E (wCall E (wCode E n)) (wRound (wCode E n)) ops sz t s):GE)= .mk e t' d' s' from h)
    cases h2
    obtain ⟨B1,hB1,h3⟩:=wDraw_ok hC ihc ihr h1 hB
    exact ⟨B1,hB1,by simp only [stepC,cDraw,if_true,h3]⟩
   |false=>
    simp only [stepC,Bool.false_eq_true,if_false]
    obtain ⟨x,h1,h2⟩:=oerec (show (Option.rec (motive:=fun _=>GE) .no (fun x=>bOW x E (wCode E n) ro sz t d s) (cmpOpsW E.C E.P ops sz):GE)= .mk e t' d' s' from h)
    unfold cmpOpsW at h1
    split at h1
    ·rename_i l hl
     split at h1
     ·rename_i c hcw
      cases h1
      unfold cOps
      rw [hl]
      simp only
      split at h2
      ·cases ro with
       |some r=>have h2: (GE.no:GE)= .mk e t' d' s':=h2;cases h2
       |none=>
        have h2: (RD.rec (motive:=fun _=>GE) .no (fun t' d' s'=> .mk .normal t' d' s') (dOps c E (wCall E (wCode E n)) (wRound (wCode E n)) t d s):GE)= .mk e t' d' s':=h2
        cases hg:dOps c E (wCall E (wCode E n)) (wRound (wCode E n)) t d s with
        |no=>rw [hg] at h2;cases h2
        |mk t1 d1 s1=>
         rw [hg] at h2
         cases h2
         obtain ⟨B1,hB1,h3⟩:=dOps_ok hC ihc ihr l hcw hg hB
         refine ⟨B1,hB1,?_⟩
         have h3:fOps E.C (Option.isSome (none:Option Nat)) (fxo E (fCall E (fCode E n)) (fRound (fCode E n))) l B d s=some (B1,d',s'):=h3
         simp only [h3]
      ·obtain ⟨t1,s1,h3,h4⟩:=rwrec (show (RW.rec (motive:=fun _=>GE) .no (fun t' s'=> .mk .normal t' d s') (wOps c E (wCall E (wCode E n)) (wRound (wCode E n)) t s):GE)= .mk e t' d' s' from h2)
       cases h4
       obtain ⟨B1,hB1,h5⟩:=wOps_ok hC ihc ihr (inR:=ro.isSome) (d:=d) l hcw h3 hB
       exact ⟨B1,hB1,by simp only [h5]⟩
     ·cases h1
    ·cases h1
  |rangeFunc g ps assign body=>
   have h: (Bool.rec (motive:=fun _=>GE) .no (Option.rec (motive:=fun _=>GE) .no (fun r=>Prod.rec (motive:=fun _=>GE) (fun e q=>Prod.rec (motive:=fun _=>GE) (fun a' s'=> .mk e t (Act.defers a') s') q) r) (xRangeG E (wCall E (wCode E n)) ro g ps assign body ⟨wArr t sz,d⟩ s)) (Nat.ble sz 256):GE)= .mk e t' d' s':=h
   cases hb:Nat.ble sz 256 with
   |false=>rw [hb] at h;cases h
   |true=>
    rw [hb] at h
    obtain ⟨q,h1,h2⟩:=oerec h
    obtain ⟨e1,a1,s1⟩:=q
    cases h2
    rw [wArr_ok hB (Nat.le_of_ble_eq_true hb)] at h1
    exact ⟨B,hB,by simp only [stepC,cRange,xRangeG_mono ihc h1]⟩
  |_=>cases h
theorem turbo_ok {E:Env} (hE:E.Ok) {N:Nat} {f:FuncId} {args:List Value} {s s':AS} {v:Value} (h:wCall E (wCode E N) f args s=some (v,s')) {ι:Emb} {w:World} {args':List Value} (hr:Rep E.P E.C.G ι s.mem w) (ha:VRl ι args args'):
  Calls E.P f args'.toArray w fun e w'=> ∃ι' v',e= .returned v'∧Tr E.P E.C.G ι s.mem w ι' s'.mem w'∧VR ι' v v':=fast_ok hE (wCall_ok (wCode_ok hE.C N) _ _ _ _ h) hr ha
end
end Go.Proofs.YtdcioacjhpnihaaGreatDoor
