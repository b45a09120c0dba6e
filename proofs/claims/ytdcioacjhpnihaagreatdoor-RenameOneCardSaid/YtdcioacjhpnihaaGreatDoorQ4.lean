/- The fast run: temporaries in a table; operations on them. The fast run: an operation, with whatever calls; the regions' order reckoned from their operations alone. The fast run: regions. What hangs on the operations alone is reckoned from them alone (the kernel keeps it). The fast run: a region that draws its order. The fast run: code, calls, rounds. The fast run is right. The quick run, its parts: everything spelled by recursors in constants of their own (the kernel copies little); each part is shown to give what the fast run's part gives. -/
import Derived.Test.YtdcioacjhpnihaaGreatDoorQ3
set_option linter.all false
namespace Go.Proofs.YtdcioacjhpnihaaGreatDoor
open Go
noncomputable section
def toAct (t:T Value) (sz:Nat) (d:List Deferred):Act:=⟨((List.range sz).map fun k=>(t.get k).getD undef).toArray,d⟩
theorem toAct_size (t:T Value) (sz:Nat) (d:List Deferred): (toAct t sz d).tmps.size=sz:=by simp [toAct]
theorem toAct_get (t:T Value) (sz:Nat) (d:List Deferred) (k:Nat): (toAct t sz d).tmps[k]? =if k<sz then some ((t.get k).getD undef) else none:=by
 simp only [toAct,List.getElem?_toArray,List.getElem?_map]
 split
 ·rename_i h;simp [h]
 ·rename_i h;simp [h]
theorem toAct_put (t:T Value) (sz:Nat) (d:List Deferred) (k:Nat) (v:Value) (hk:k<sz) (hk2:k<100000):toAct (t.put 100000 k (some v)) sz d=(toAct t sz d).put (some k) v:=by
 have h: (toAct (t.put 100000 k (some v)) sz d).tmps=((toAct t sz d).put (some k) v).tmps:=by
  refine Array.ext_getElem? fun j=> ?_
  rw [toAct_get,T.get_put _ _ _ _ _ hk2,Act.put_tmps,Array.getElem?_setIfInBounds,toAct_size,toAct_get]
  by_cases hj:j=k
  ·subst hj;simp [hk]
  ·rw [if_neg hj,if_neg (Ne.symm hj)]
 show (⟨_,_⟩:Act)=_
 unfold toAct at h ⊢
 simp only [Act.put] at h ⊢
 rw [h]
def evT (C:Cfg) (t:T Value):Operand→Option Value
 | .tmp k=>match t.get k with
  |some v=>some v
  |none=>some undef
 | .const v=>if flat v then some v else none
 | .global g=>if g<C.G then some (.pointer (some ⟨g,0,none⟩)) else none
 | .func f=>some (.func (.func f) #[] #[])
def tmpOk (sz:Nat):Operand→Bool
 | .tmp k=>decide (k<sz)
 |_=>true
theorem evT_aev {C:Cfg} {t:T Value} {sz:Nat} {d:List Deferred} {x:Operand} (h:tmpOk sz x=true):aev C (toAct t sz d) x=evT C t x:=by
 cases x with
 |tmp k=>
  simp only [tmpOk,decide_eq_true_eq] at h
  simp only [aev,evT,toAct_get,if_pos h]
  cases t.get k<;>rfl
 |_=>rfl
def e1 (ev:Operand→Option Value) (x:Operand) (f:Value→Option Value) (s:AS):Option (Value × AS):=match ev x with
 |some v=>match f v with
  |some r=>some (r,s)
  |none=>none
 |none=>none
def e2 (ev:Operand→Option Value) (x y:Operand) (f:Value→Value→Option Value) (s:AS):Option (Value × AS):=match ev x,ev y with
 |some u,some v=>match f u v with
  |some r=>some (r,s)
  |none=>none
 |_,_=>none
def evs (ev:Operand→Option Value):List Operand→Option (List Value)
 | [] =>some []
 |x::l=>match ev x,evs ev l with
  |some v,some r=>some (v::r)
  |_,_=>none
def eparts (ev:Operand→Option Value):List (Nat × Operand)→Option (List (Nat × Value))
 | [] =>some []
 |x::l=>match ev x.2,eparts ev l with
  |some v,some r=>some ((x.1,v)::r)
  |_,_=>none
def eopt (ev:Operand→Option Value):Option Operand→Option (Option Value)
 |none=>some none
 |some x=>match ev x with
  |some v=>some (some v)
  |none=>none
def wrapF:IntKind→Int→Int
 | .i64,n=>if 0≤n∧n<9223372036854775808 then n else IntKind.wrap .i64 n
 | .u64,n=>if 0≤n∧n<18446744073709551616 then n else IntKind.wrap .u64 n
 | .u8,n=>if 0≤n∧n<256 then n else IntKind.wrap .u8 n
 | .u32,n=>if 0≤n∧n<4294967296 then n else IntKind.wrap .u32 n
 |k,n=>k.wrap n
theorem wrapF_ok (k:IntKind) (n:Int):wrapF k n=k.wrap n:=by
 cases k<;>simp only [wrapF] <;> (try rfl) <;> (split<;> (try rfl)) <;> (unfold IntKind.wrap;simp [IntKind.bits,IntKind.signed];omega)
def fbin:BinOp→Value→Value→Option Value
 | .add, .int k a, .int k' b=>if k=k' then some (.int k (wrapF k (a+b))) else none
 | .sub, .int k a, .int k' b=>if k=k' then some (.int k (wrapF k (a-b))) else none
 | .mul, .int k a, .int k' b=>if k=k' then some (.int k (wrapF k (a*b))) else none
 | .eql, .int k a, .int k' b=>if k=k' then some (.bool (a==b)) else none
 | .neq, .int k a, .int k' b=>if k=k' then some (.bool (a !=b)) else none
 | .lss, .int k a, .int k' b=>if k=k' then some (.bool (decide (a<b))) else none
 | .leq, .int k a, .int k' b=>if k=k' then some (.bool (decide (a≤b))) else none
 | .gtr, .int k a, .int k' b=>if k=k' then some (.bool (decide (a>b))) else none
 | .geq, .int k a, .int k' b=>if k=k' then some (.bool (decide (a≥b))) else none
 |_,_,_=>none
theorem fbin_ok {P:Program} {op:BinOp} {t:TypeId} {x y:Operand} {u v r:Value} (h:fbin op u v=some r):semP P (do eqGuard op t x y u v;binOp op t u v)=some r∧flat u=true∧flat v=true∧flat r=true:=by
 unfold fbin at h
 split at h<;>first | (cases h;done)|skip
 all_goals
  split at h
  ·rename_i hk
   subst hk
   cases h
   refine ⟨?_,rfl,rfl,rfl⟩
   simp [eqGuard_at_int,binOp_add,binOp_sub,binOp_mul,binOp_eql,binOp_neq,binOp_lss,binOp_leq,binOp_gtr,binOp_geq,wrapF_ok,Op.intArith]
   rfl
  ·cases h
def fflat (P:Program) (ev:Operand→Option Value) (o:Oper):Option Value:=
 if o.op.operands.toList.all (fun x=>match ev x with |some v=>flat v |none=>false) then
  match semP P (execOp (fun x=>(ev x).getD undef) o) with
  |some (.value v)=>if flat v then some v else none
  |_=>none
 else none
def eFlat (r:Option (Value × AS)) (P:Program) (s:AS) (ev:Operand→Option Value) (o:Oper):Option (Value × AS):=match r with
 |some x=>some x
 |none=>match fflat P ev o with
  |some v=>some (v,s)
  |none=>none
def fop (C:Cfg) (P:Program) (ev:Operand→Option Value) (s:AS) (o:Oper):Option (Value × AS):=
 match o.op with
 | .move x | .assign x=>e1 ev x some s
 | .pick c x y=>match ev c with
  |some (.bool b)=>e1 ev (if b then x else y) some s
  |_=>none
 | .alloc t=>aalloc C s t
 | .box t x=>match ev x with
  |some v=>abox s t v
  |none=>none
 | .build t ps=>match eparts ev ps.toList with
  |some l=>match abuild C P t l with
   |some v=>some (v,s)
   |none=>none
  |none=>none
 | .buildSlice t n ps=>match eparts ev ps.toList with
  |some l=>abuildS C s t n l
  |none=>none
 | .load t x=>e1 ev x (aload C s t) s
 | .store t x y=>match ev x,ev y with
  |some p,some v=>match astore C s t p v with
   |some s'=>some (undef,s')
   |none=>none
  |_,_=>none
 | .nilCheck x=>e1 ev x (fun v=>if anilCheck v then some v else none) s
 | .binOp op t x y _=>match ev x,ev y with
  |some u,some v=>match fbin op u v with
   |some r=>some (r,s)
   |none=>eFlat (e2 ev x y (fbin2 C t op) s) P s ev o
  |_,_=>none
 | .unOp .. =>eFlat none P s ev o
 | .convert t u x=>match ev x with
  |some v=>if scalT u then eFlat (match abytes2 C s t u v with |some r=>some (r,s)|none=>none) P s ev o else match astring2 C s t u v with
   |some r=>some r
   |none=>match aunsafe C P s t u v with
    |some r=>some (r,s)
    |none=>eFlat none P s ev o
  |none=>none
 | .sliceToArrayPointer t x=>e1 ev x (aarrP C t) s
 | .makeInterface t x=>e1 ev x (aiface C t) s
 | .makeFunc (.func f) fs xs=>match evs ev fs.toList,evs ev xs.toList with
  |some b,some l=>some (.func (.func f) b.toArray l.toArray,s)
  |_,_=>none
 | .makeSlice t l c=>match ev l,ev c with
  |some u,some v=>amake C s t u v
  |_,_=>none
 | .slice t x l h m=>match ev x,eopt ev l,eopt ev h,eopt ev m with
  |some v,some l',some h',some m'=>eFlat (match aslice2 C t v l' h' m' with |some r=>some (r,s)|none=>none) P s ev o
  |_,_,_,_=>none
 | .fieldAddr t x f=>e1 ev x (fun v=>afieldA C t v f) s
 | .field t x f=>e1 ev x (fun v=>afield C t v f) s
 | .indexAddr t x i=>e2 ev x i (aindexA C t) s
 | .index t x i=>eFlat (e2 ev x i (aindex2 C t) s) P s ev o
 | .extract x i=>e1 ev x (fun v=>match v with | .tuple vs=>vs[i]? |_=>none) s
 | .call c=>match c.callee with
  | .builtin b=>match evs ev c.args.toList with
   |some vs=>eFlat (abuiltin C P s b c.argTypes.toList vs) P s ev o
   |none=>none
  |_=>none
 |op=>match evs ev op.operands.toList with
  |some vs=>mop C P s op vs
  |none=>none
section
variable {C:Cfg} {P:Program} {ev:Operand→Option Value} {a:Act} {s:AS}
theorem e1_eq {x:Operand} (h:ev x=aev C a x) (f:Value→Option Value):e1 ev x f s=a1 C a x f s:=by unfold e1 a1;rw [h];rfl
theorem e2_eq {x y:Operand} (h:ev x=aev C a x) (h2:ev y=aev C a y) (f:Value→Value→Option Value):e2 ev x y f s=a2 C a x y f s:=by unfold e2 a2;rw [h,h2];rfl
theorem evs_eq: ∀ (l:List Operand),(∀x∈l,ev x=aev C a x)→evs ev l=aevs C a l
 | [],_=>rfl
 |x::l,h=>by unfold evs aevs;rw [h x (by simp),evs_eq l fun y hy=>h y (by simp [hy])];rfl
theorem eparts_eq: ∀ (l:List (Nat × Operand)),(∀x∈l,ev x.2=aev C a x.2)→eparts ev l=aparts C a l
 | [],_=>rfl
 |x::l,h=>by unfold eparts aparts;rw [h x (by simp),eparts_eq l fun y hy=>h y (by simp [hy])];rfl
theorem eopt_eq {x:Option Operand} (h: ∀y,x=some y→ev y=aev C a y):eopt ev x=aopt C a x:=by
 cases x with
 |none=>rfl
 |some y=>simp only [eopt,aopt];rw [h y rfl];rfl
theorem fflat_eq {o:Oper} (hs: ∀cs b,o.op≠ .select cs b) (h: ∀x∈o.op.operands,ev x=aev C a x):fflat P ev o=aflat C P a o:=by
 have h1: (o.op.operands.toList.all fun x=>match ev x with |some v=>flat v |none=>false)=(o.op.operands.toList.all fun x=>match aev C a x with |some v=>flat v |none=>false):=by
  have: ∀ (l:List Operand),(∀x∈l,ev x=aev C a x)→(l.all fun x=>match ev x with |some v=>flat v |none=>false)=(l.all fun x=>match aev C a x with |some v=>flat v |none=>false):=by
   intro l
   induction l with
   |nil=>intro _;rfl
   |cons x l ih=>
    intro h
    simp only [List.all_cons]
    rw [h x (by simp),ih fun y hy=>h y (by simp [hy])]
  exact this _ fun x hx=>h x (Array.mem_toList_iff.1 hx)
 unfold fflat aflat
 rw [h1]
 by_cases hall: (o.op.operands.toList.all fun x=>match aev C a x with |some v=>flat v |none=>false)=true
 ·rw [if_pos hall]
  refine Eq.trans ?_ (if_pos hall).symm
  have:execOp (fun x=>(ev x).getD undef) o=execOp a.eval o:=execOp_congr o hs fun x hx=>by
   have h2:=List.all_eq_true.1 hall x (Array.mem_toList_iff.2 hx)
   rw [h x hx]
   split at h2
   ·rename_i v hv
    rw [hv,aev_eval hv]
    rfl
   ·cases h2
  rw [this]
  rfl
 ·rw [if_neg hall]
  exact (if_neg hall).symm
theorem eFlat_eq {o:Oper} (hs: ∀cs b,o.op≠ .select cs b) (h: ∀x∈o.op.operands,ev x=aev C a x) (r:Option (Value × AS)):eFlat r P s ev o=orFlat r C P s a o:=by
 unfold eFlat orFlat
 rw [fflat_eq (P:=P) hs h]
 rfl
theorem fop_ok {o:Oper} {r:Value × AS} (h: ∀x∈o.op.operands,ev x=aev C a x) (hf:fop C P ev s o=some r):aop C P s a o=some r:=by
 obtain ⟨dst,op,ty,pos,aft,gd⟩:=o
 cases op with
 |binOp op t x y yt=>
  have hx:=h x (by simp [Op.operands])
  have hy:=h y (by simp [Op.operands])
  simp only [fop] at hf
  split at hf
  ·rename_i u v hu hv
   split at hf
   ·rename_i q hq
    cases hf
    obtain ⟨p1,p2,p3,p4⟩:=fbin_ok (P:=P) (t:=t) (x:=x) (y:=y) hq
    have hfl:aflat C P a ⟨dst, .binOp op t x y yt,ty,pos,aft,gd⟩=some q:=by
     unfold aflat
     rw [hx] at hu
     rw [hy] at hv
     have e1:=aev_eval hu
     have e2:=aev_eval hv
     simp only [Op.operands,List.all_cons,List.all_nil,hu,hv,p2,p3,Bool.and_self,if_true]
     have:semP P (execOp a.eval ⟨dst, .binOp op t x y yt,ty,pos,aft,gd⟩)=some (.value q):=by
      simp only [execOp,e1,e2]
      have: ∀ (m:Sem Value),semP P m=some q→semP P (do pure (Next.value (←m)))=some (.value q):=by
       intro m
       induction m with
       |pure a=>intro h;cases h;rfl
       |program k ih=>intro h;exact ih P h
       |_=>intro h;cases h
      exact this _ p1
     rw [this]
     simp [p4]
    have hni: ∀ (op:BinOp),fbin op u v=some q→(∃k x y,u= .int k x∧v= .int k y):=fun op hq=>by
     unfold fbin at hq
     split at hq<;>first | (cases hq;done)| (split at hq<;>first | (rename_i hk;subst hk;exact ⟨_,_,_,rfl,rfl⟩)|cases hq)
    obtain ⟨k,i,j,rfl,rfl⟩:=hni op hq
    have hnil: ∀f:Value→Value→Option Value,f (.int k i) (.int k j)=none→a2 C a x y f s=none:=fun f hf=>by
     unfold a2
     rw [hx] at hu
     rw [hy] at hv
     rw [hu,hv]
     simp only [hf]
    have hz:anil C t (.int k i) (.int k j)=none:=by
     unfold anil
     split<;>first |rfl |simp_all
    simp only [aop,orFlat]
    rw [hnil _ (fbin2_int hz),hfl]
   ·simp only [aop];rw [←eFlat_eq (by simp) h, ←e2_eq hx hy];exact hf
  ·cases hf
 |unOp b t x=>simp only [fop] at hf;simp only [aop];rw [←eFlat_eq (by simp) h];exact hf
 |move x=>simp only [fop] at hf;simp only [aop];rw [←e1_eq (h x (by simp [Op.operands]))];exact hf
 |assign x=>simp only [fop] at hf;simp only [aop];rw [←e1_eq (h x (by simp [Op.operands]))];exact hf
 |pick c x y=>
  simp only [fop] at hf
  simp only [aop]
  rw [←h c (by simp [Op.operands])]
  split at hf
  ·rename_i b hb
   rw [hb]
   simp only
   rw [←e1_eq (h (if b then x else y) (by cases b<;>simp [Op.operands]))]
   exact hf
  ·cases hf
 |alloc t=>exact hf
 |box t x=>simp only [fop] at hf;simp only [aop];rw [←h x (by simp [Op.operands])];exact hf
 |build t ps=>simp only [fop] at hf;simp only [aop];rw [←eparts_eq ps.toList fun x hx=>h x.2 (by simp only [Op.operands,List.mem_toArray,List.mem_map];exact ⟨x,hx,rfl⟩)];exact hf
 |buildSlice t n ps=>simp only [fop] at hf;simp only [aop];rw [←eparts_eq ps.toList fun x hx=>h x.2 (by simp only [Op.operands,List.mem_toArray,List.mem_map];exact ⟨x,hx,rfl⟩)];exact hf
 |load t x=>simp only [fop] at hf;simp only [aop];rw [←e1_eq (h x (by simp [Op.operands]))];exact hf
 |store t x y=>simp only [fop] at hf;simp only [aop];rw [←h x (by simp [Op.operands]), ←h y (by simp [Op.operands])];exact hf
 |nilCheck x=>simp only [fop] at hf;simp only [aop];rw [←e1_eq (h x (by simp [Op.operands]))];exact hf
 |convert t u x=>
  simp only [fop] at hf
  simp only [aop]
  rw [←h x (by simp [Op.operands])]
  split at hf
  ·rename_i v hv
   rw [hv]
   simp only
   split at hf
   ·rename_i hs;rw [if_pos hs, ←eFlat_eq (by simp) h];exact hf
   ·rename_i hs
    rw [if_neg hs]
    split at hf
    ·rename_i q hq;rw [hq];exact hf
    ·rename_i hq
     rw [hq]
     simp only
     split at hf
     ·rename_i q hq;rw [hq];exact hf
     ·rename_i hq;rw [hq];simp only;rw [←eFlat_eq (by simp) h];exact hf
  ·cases hf
 |sliceToArrayPointer t x=>simp only [fop] at hf;simp only [aop];rw [←e1_eq (h x (by simp [Op.operands]))];exact hf
 |makeInterface t x=>simp only [fop] at hf;simp only [aop];rw [←e1_eq (h x (by simp [Op.operands]))];exact hf
 |makeFunc fn fs xs=>
  cases fn with
  |func g=>simp only [fop] at hf;simp only [aop];rw [←evs_eq fs.toList fun x hx=>h x (by simp only [Op.operands,Array.mem_append];exact .inl (Array.mem_toList_iff.1 hx)), ←evs_eq xs.toList fun x hx=>h x (by simp only [Op.operands,Array.mem_append];exact .inr (Array.mem_toList_iff.1 hx))];exact hf
  |_=>simp only [fop] at hf;split at hf<;>cases hf
 |makeSlice t l c=>simp only [fop] at hf;simp only [aop];rw [←h l (by simp [Op.operands]), ←h c (by simp [Op.operands])];exact hf
 |slice t x l hh m=>
  simp only [fop] at hf
  simp only [aop]
  rw [←h x (by simp [Op.operands]), ←eopt_eq (x:=l) (fun y hy=>h y (by subst hy;simp [Op.operands])), ←eopt_eq (x:=hh) (fun y hy=>h y (by subst hy;simp [Op.operands])), ←eopt_eq (x:=m) (fun y hy=>h y (by subst hy;simp [Op.operands]))]
  split at hf
  ·rename_i v l' h' m' q1 q2 q3 q4
   rw [q1,q2,q3,q4]
   simp only
   rw [←eFlat_eq (by simp) h]
   exact hf
  ·cases hf
 |fieldAddr t x f=>simp only [fop] at hf;simp only [aop];rw [←e1_eq (h x (by simp [Op.operands]))];exact hf
 |field t x f=>simp only [fop] at hf;simp only [aop];rw [←e1_eq (h x (by simp [Op.operands]))];exact hf
 |indexAddr t x i=>simp only [fop] at hf;simp only [aop];rw [←e2_eq (h x (by simp [Op.operands])) (h i (by simp [Op.operands]))];exact hf
 |index t x i=>simp only [fop] at hf;simp only [aop];rw [←eFlat_eq (by simp) h, ←e2_eq (h x (by simp [Op.operands])) (h i (by simp [Op.operands]))];exact hf
 |extract x i=>simp only [fop] at hf;simp only [aop];rw [←e1_eq (h x (by simp [Op.operands]))];exact hf
 |call c=>
  obtain ⟨callee,args,ats⟩:=c
  cases callee with
  |builtin b=>
   simp only [fop] at hf
   simp only [aop]
   rw [←evs_eq args.toList fun x hx=>h x (by simp only [Op.operands,Call.operands];simpa using Array.mem_toList_iff.1 hx)]
   split at hf
   ·rename_i vs hvs
    rw [hvs]
    simp only
    rw [←eFlat_eq (by simp) h]
    exact hf
   ·cases hf
  |_=>cases hf
 |_=>
  simp only [fop] at hf
  simp only [aop]
  rw [←evs_eq _ fun x hx=>h x (Array.mem_toList_iff.1 hx)]
  exact hf
end
end
end Go.Proofs.YtdcioacjhpnihaaGreatDoor
namespace Go.Proofs.YtdcioacjhpnihaaGreatDoor
open Go
noncomputable section
def CallOk (E:Env) (f:FuncId) (args:List Value) (s:AS) (v:Value) (s':AS):Prop:=(∀args w,(callFunc f args).run E.P w= .ok (.enter f args) w)∧ ∀ (ι:Emb) (w:World) (args':List Value),Rep E.P E.C.G ι s.mem w→VRl ι args args'→
 Calls E.P f args'.toArray w fun e w'=> ∃ι' v',e= .returned v'∧Tr E.P E.C.G ι s.mem w ι' s'.mem w'∧VR ι' v v'
def RndOk (E:Env) (ro:Option Nat) (n:Nat) (l:Nat) (args:List Value) (s:AS) (v:Value) (s':AS):Prop:= ∀ (ι:Emb) (w:World) (args':List Value) (l':Nat),Rep E.P E.C.G ι s.mem w→VRl ι args args'→ι.b l=some l'→
 ∃fn tmps assign body,(Instr.yield l' args'.toArray).run E.P w= .ok (.round l' fn tmps assign body) w∧RoundIn (frF ro) n E.P l' fn tmps assign body w fun e w'=> ∃ι' v',e= .returned v'∧Tr E.P E.C.G ι s.mem w ι' s'.mem w'∧VR ι' v v'
def xOpG (E:Env) (call:FuncId→List Value→AS→Option (Value × AS)) (rnd:Nat→List Value→AS→Option (Value × AS)) (o:Oper) (a:Act) (s:AS):Option (Value × AS):=
 match o.op with
 | .call c=>match c.callee with
  | .value x=>match aev E.C a x,aevs E.C a c.args.toList with
   |some (.func (.func f) fs cap),some vs=>match E.ext f (fs.toList++vs++cap.toList) s with
     |some r=>some r
     |none=>call f (fs.toList++vs++cap.toList) s
   |some (.func (.yield l) _ _),some vs=>rnd l vs s
   |_,_=>none
  | .builtin _=>aop E.C E.P s a o
  |_=>none
 |_=>aop E.C E.P s a o
def fxo (E:Env) (call:FuncId→List Value→AS→Option (Value × AS)) (rnd:Nat→List Value→AS→Option (Value × AS)) (ev:Operand→Option Value) (o:Oper) (s:AS):Option (Value × AS):=
 match o.op with
 | .call c=>match c.callee with
  | .value x=>match ev x,evs ev c.args.toList with
   |some (.func (.func f) fs cap),some vs=>match E.ext f (fs.toList++vs++cap.toList) s with
     |some r=>some r
     |none=>call f (fs.toList++vs++cap.toList) s
   |some (.func (.yield l) _ _),some vs=>rnd l vs s
   |_,_=>none
  | .builtin _=>fop E.C E.P ev s o
  |_=>none
 |_=>fop E.C E.P ev s o
theorem fxo_ok {E:Env} {call:FuncId→List Value→AS→Option (Value × AS)} {rnd:Nat→List Value→AS→Option (Value × AS)} {ev:Operand→Option Value} {o:Oper} {a:Act} {s:AS} {r:Value × AS} (h: ∀x∈o.op.operands,ev x=aev E.C a x) (hf:fxo E call rnd ev o s=some r):xOpG E call rnd o a s=some r:=by
 unfold fxo at hf
 unfold xOpG
 split at hf
 ·rename_i c hc
  have hops:o.op.operands=c.operands:=by rw [hc];rfl
  split at hf
  ·rename_i x hx
   have h1:=h x (by rw [hops];simp [Call.operands,hx])
   have h2:=evs_eq (ev:=ev) (C:=E.C) (a:=a) c.args.toList fun y hy=>h y (by rw [hops];simp only [Call.operands,Array.mem_append];exact .inr (Array.mem_toList_iff.1 hy))
   try simp only [hx]
   rw [←h1, ←h2]
   exact hf
  ·rename_i b hb
   try simp only [hb]
   exact fop_ok h hf
  ·cases hf
 ·exact fop_ok h hf
section
variable {E:Env} (hE:E.Ok)
include hE
theorem xOpG_ok {call:FuncId→List Value→AS→Option (Value × AS)} {rnd:Nat→List Value→AS→Option (Value × AS)} (ro:Option Nat) (n:Nat)
  (hcall: ∀f args s v s',call f args s=some (v,s')→CallOk E f args s v s') (hrnd: ∀l args s v s',rnd l args s=some (v,s')→RndOk E ro (n-1) l args s v s')
  {o:Oper} {a:Act} {s s':AS} {v:Value} (h:xOpG E call rnd o a s=some (v,s')):OpT (frF ro) n E.P E.C o a s.mem v s'.mem:=by
 have plain: (∀c,o.op≠ .defer c)→aop E.C E.P s a o=some (v,s')→OpT (frF ro) n E.P E.C o a s.mem v s'.mem:=fun hnd h ι w ac hr ho K Q hK=>by
  obtain ⟨ι',w',nx,v',e1,e2,e3,e4⟩:=aop_ok hE.C hr ho h
  rcases e2 with rfl | ⟨rfl,rfl⟩
  ·exact wpIn_val (frF_fn ro) hnd e1 (hK ι' w' v' e3 e4)
  ·unfold Oper.wpIn
   refine ⟨fun g _=>frF_fn ro g,?_⟩
   rw [Oper.semAt_eq _ _ _ hnd,e1]
   exact hK ι' w' _ e3 e4
 obtain ⟨dst,op,ty,pos,aft,gd⟩:=o
 unfold xOpG at h
 split at h
 ·rename_i c hc
  simp only at hc
  subst hc
  split at h
  ·rename_i x hx0
   obtain ⟨callee,args,ats⟩:=c
   simp only at hx0 h
   subst hx0
   intro ι w ac hr ho K Q hK
   have hop: ∀y∈args.toList, ∀u,aev E.C a y=some u→VR ι u (ac.eval y):=fun y hy=>ho y (by simp only [Op.operands,Call.operands,Array.mem_append];exact .inr (Array.mem_toList_iff.1 hy))
   have hxv: ∀u,aev E.C a x=some u→VR ι u (ac.eval x):=fun u hu=>ho x (by simp [Op.operands,Call.operands]) u hu
   split at h
   ·rename_i f fs cap vs hv hvs
    obtain ⟨fs',cap',e,hfs,hcap⟩: ∃fs' cap',ac.eval x= .func (.func f) fs' cap'∧VRs ι fs fs'∧VRs ι cap cap':=by
     have:=hxv _ hv
     generalize ac.eval x=q at this
     cases this with
     |func _ hb1 hb2 h1 h2=>exact ⟨_,_,rfl,⟨hb1,hb2⟩,h1,h2⟩
    have hargs:VRl ι (fs.toList++vs++cap.toList) (fs'.toList++args.toList.map ac.eval++cap'.toList):=((VRl.of_s hfs).append (aevs_ok args.toList vs hop hvs)).append (VRl.of_s hcap)
    have hex: (execOp ac.eval ⟨dst, .call ⟨.value x,args,ats⟩,ty,pos,aft,gd⟩).run E.P w=(callFunc f (fs'.toList++args.toList.map ac.eval++cap'.toList).toArray).run E.P w:=by
     have: (fs'++args.map ac.eval++cap')=(fs'.toList++args.toList.map ac.eval++cap'.toList).toArray:=by apply Array.ext';simp
     simp only [execOp,resolve,e,Deferred.ofValue,invoke]
     rw [←this]
     simp [invoke]
    split at h
    ·rename_i r hre
     cases h
     obtain ⟨ι',w',v',e1,e2,e3⟩:=hE.ext _ _ _ _ _ hre ι w _ hr hargs
     exact wpIn_val (frF_fn ro) (by simp) (hex.trans e1) (hK ι' w' v' e2 e3)
    ·obtain ⟨h1,h2⟩:=hcall _ _ _ _ _ h
     unfold Oper.wpIn
     refine ⟨fun g _=>frF_fn ro g,?_⟩
     rw [Oper.semAt_eq _ _ _ (by simp),hex,h1]
     refine ⟨(fun e=>by rw [frF_depth] at e;cases e),(callsF (h2 ι w _ hr hargs) ro (n-1)).mono ?_⟩
     rintro e w' ⟨ι',v',rfl,ht,hv'⟩
     exact hK ι' w' v' ht hv'
   ·rename_i l fs cap vs hv hvs
    obtain ⟨l',e,hb⟩: ∃l',ac.eval x= .func (.yield l') #[] #[] ∧ι.b l=some l':=by
     have:=hxv _ hv
     generalize ac.eval x=q at this
     cases this with
     |yield hb=>exact ⟨_,rfl,hb⟩
    obtain ⟨fn,tmps,assign,body,hy,hR⟩:=hrnd _ _ _ _ _ h ι w _ l' hr (aevs_ok args.toList vs hop hvs) hb
    have hex: (execOp ac.eval ⟨dst, .call ⟨.value x,args,ats⟩,ty,pos,aft,gd⟩).run E.P w=(Instr.yield l' (args.toList.map ac.eval).toArray).run E.P w:=by
     have:args.map ac.eval=(args.toList.map ac.eval).toArray:=by apply Array.ext';simp
     simp [execOp,resolve,e,Deferred.ofValue,invoke,this]
    unfold Oper.wpIn
    refine ⟨fun g _=>frF_fn ro g,?_⟩
    rw [Oper.semAt_eq _ _ _ (by simp),hex,hy]
    refine ⟨(fun e=>by rw [frF_depth] at e;cases e),hR.mono ?_⟩
    rintro e w' ⟨ι',v',rfl,ht,hv'⟩
    exact hK ι' w' v' ht hv'
   ·cases h
  ·exact plain (by simp) h
  ·cases h
 ·rename_i hnc
  refine plain (fun c e=> ?_) h
  simp only at e
  subst e
  simp only [aop] at h
  split at h
  ·unfold mop at h
   split at h<;>first | (cases h;done)|simp_all
  ·cases h
end
end
end Go.Proofs.YtdcioacjhpnihaaGreatDoor
namespace Go.Proofs.YtdcioacjhpnihaaGreatDoor
open Go
noncomputable section
structure FO where
 i:Nat
 o:Oper
 g:Option (Nat × Bool)
def decG (ops:Array Oper) (sz:Nat) (o:Oper):Option (Option (Nat × Bool)):=match o.guard with
 |none=>some none
 |some (j,b)=>match ops[j]? with
  |some og=>match og.dst with
   |some t=>if t<sz then some (some (t,b)) else none
   |none=>none
  |none=>none
def opOk (sz:Nat) (o:Oper):Bool:=o.op.operands.toList.all (tmpOk sz)&& (match o.dst with |some d=>decide (d<sz)&&decide (d<100000)|none=>true)
def decO (ops:Array Oper) (sz:Nat) (i:Nat) (o:Oper):Option FO:=
 if opOk sz o=true then (match decG ops sz o with
  |some g=>some ⟨i,o,g⟩
  |none=>none) else none
theorem decO_ok {ops:Array Oper} {sz i:Nat} {o:Oper} {x:FO} (h:decO ops sz i o=some x):x.i=i∧x.o=o∧opOk sz o=true∧decG ops sz o=some x.g:=by
 unfold decO at h
 by_cases hq:opOk sz o=true
 ·rw [if_pos hq] at h
  split at h
  ·rename_i g hg
   cases h
   exact ⟨rfl,rfl,hq,hg⟩
  ·cases h
 ·rw [if_neg hq] at h
  cases h
def decL (ops:Array Oper) (sz:Nat):List Nat→Option (List FO)
 | [] =>some []
 |i::l=>match ops[i]? with
  |some o=>match decO ops sz i o,decL ops sz l with
   |some x,some r=>some (x::r)
   |_,_=>none
  |none=>none
def fWant (x:FO) (t:T Value):Bool:=match x.g with
 |none=>true
 |some (k,b)=>match t.get k with
  |some (.bool c)=>c==b
  |_=>false
def fPut (d:Option Tmp) (v:Value) (t:T Value):T Value:=match d with
 |some k=>t.put 100000 k (some v)
 |none=>t
structure FOk (ops:Array Oper) (sz:Nat) (x:FO):Prop where
 at_:ops[x.i]? =some x.o
 tm: ∀y∈x.o.op.operands,tmpOk sz y=true
 d: ∀k,x.o.dst=some k→k<sz∧k<100000
 g:decG ops sz x.o=some x.g
theorem decL_ok {ops:Array Oper} {sz:Nat}: ∀ {l:List Nat} {r:List FO},decL ops sz l=some r→r.map (·.i)=l∧ ∀x∈r,FOk ops sz x
 | [],r,h=>by cases h;exact ⟨rfl,fun x hx=>by cases hx⟩
 |i::l,r,h=>by
  unfold decL at h
  split at h
  ·rename_i o ho
   split at h
   ·rename_i x r' hx hr
    cases h
    obtain ⟨h1,h2⟩:=decL_ok hr
    obtain ⟨p1,p2,p3,p4⟩:=decO_ok hx
    refine ⟨by simp [h1,p1],fun y hy=> ?_⟩
    rcases List.mem_cons.1 hy with rfl |hy
    ·unfold opOk at p3
     rw [Bool.and_eq_true] at p3
     refine ⟨by rw [p1,p2];exact ho,fun z hz=>List.all_eq_true.1 p3.1 z (Array.mem_toList_iff.2 (p2▸hz)),fun k hk=> ?_,by rw [p2];exact p4⟩
     have:=p3.2
     rw [←p2,hk] at this
     simpa using this
    ·exact h2 y hy
   ·cases h
  ·cases h
section
variable {C:Cfg} {ops:Array Oper} {sz:Nat} {x:FO} {t:T Value} {d:List Deferred}
theorem fWant_ok (h:FOk ops sz x):fWant x t=Region.wanted x.o (yielded ops (toAct t sz d).tmps):=by
 have hg:=h.g
 unfold decG at hg
 unfold fWant Region.wanted
 split at hg
 ·rename_i hn
  cases hx:x.g with
  |none=>rw [hn]
  |some _=>rw [hx] at hg;cases hg
 ·rename_i j b hj
  split at hg
  ·rename_i og hog
   split at hg
   ·rename_i k hk
    split at hg
    ·rename_i hlt
     have hxg:x.g=some (k,b):=by injection hg with hg;exact hg.symm
     rw [hj,hxg]
     simp only
     have:yielded ops (toAct t sz d).tmps j=(match t.get k with |some (.bool c)=>some c |_=>none):=by
      unfold yielded
      simp only [hog,Option.bind_some,hk,toAct_get,if_pos hlt]
      cases t.get k with
      |none=>rfl
      |some v=>cases v<;>rfl
     rw [this]
     cases t.get k with
     |none=>rfl
     |some v=>
      cases v<;>first
       |rfl
       | (rename_i c;cases c<;>cases b<;>rfl)
    ·cases hg
   ·cases hg
  ·cases hg
theorem fPut_ok (h:FOk ops sz x) (v:Value):toAct (fPut x.o.dst v t) sz d=(toAct t sz d).put x.o.dst v:=by
 unfold fPut
 cases hd:x.o.dst with
 |none=>rfl
 |some k=>exact toAct_put t sz d k v (h.d k hd).1 (h.d k hd).2
theorem fEv_ok (h:FOk ops sz x): ∀y∈x.o.op.operands,evT C t y=aev C (toAct t sz d) y:=fun y hy=>(evT_aev (h.tm y hy)).symm
end
def fdefer (ev:Operand→Option Value) (c:Call):Option Deferred:=match c.callee with
 | .value x=>match ev x,evs ev c.args.toList with
  |some (.func (.func g) fs cap),some vs=>if fs.isEmpty then some ⟨.fn (.func g) cap,vs.toArray⟩ else none
  |_,_=>none
 |_=>none
def fOps (C:Cfg) (inR:Bool) (xo: (Operand→Option Value)→Oper→AS→Option (Value × AS)):List FO→T Value→List Deferred→AS→Option (T Value × List Deferred × AS)
 | [],t,d,s=>some (t,d,s)
 |x::l,t,d,s=>if fWant x t then (match x.o.op with
   | .defer c=>if inR then none else (match fdefer (evT C t) c with
    |some df=>fOps C inR xo l (fPut x.o.dst undef t) (df::d) s
    |none=>none)
   |_=>match xo (evT C t) x.o s with
    |some (v,s')=>fOps C inR xo l (fPut x.o.dst v t) d s'
    |none=>none)
  else fOps C inR xo l (fPut x.o.dst undef t) d s
theorem fOps_ok {C:Cfg} {ops:Array Oper} {sz:Nat} {inR:Bool} {fx: (Operand→Option Value)→Oper→AS→Option (Value × AS)} {xo:Oper→Act→AS→Option (Value × AS)}
  (hx: ∀ev o a s r,(∀y∈o.op.operands,ev y=aev C a y)→fx ev o s=some r→xo o a s=some r):
  ∀ (l:List FO),(∀x∈l,FOk ops sz x)→ ∀ {t t':T Value} {d d':List Deferred} {s s':AS},fOps C inR fx l t d s=some (t',d',s')→xOps C inR xo ops (l.map (·.i)) (toAct t sz d) s=some (toAct t' sz d',s')
 | [],_,t,t',d,d',s,s',h=>by cases h;rfl
 |x::l,hl,t,t',d,d',s,s',h=>by
  have hk:=hl x (by simp)
  have hl':=fun y hy=>hl y (List.mem_cons_of_mem x hy)
  unfold fOps at h
  simp only [List.map_cons,xOps,hk.at_]
  rw [←fWant_ok hk]
  split at h
  ·rename_i hw
   rw [if_pos hw]
   split at h
   ·rename_i c hc
    simp only [hc]
    split at h
    ·cases h
    ·rename_i hin
     rw [if_neg hin]
     split at h
     ·rename_i df hdf
      have:adefer C (toAct t sz d) c=some df:=by
       unfold fdefer at hdf
       unfold adefer
       have hops:x.o.op.operands=c.operands:=by rw [hc];rfl
       split at hdf
       ·rename_i y hy
        have h1:=fEv_ok (C:=C) (t:=t) (d:=d) hk y (by rw [hops];simp [Call.operands,hy])
        have h2:=evs_eq (ev:=evT C t) (C:=C) (a:=toAct t sz d) c.args.toList fun z hz=>fEv_ok hk z (by rw [hops];simp only [Call.operands,Array.mem_append];exact .inr (Array.mem_toList_iff.1 hz))
        simp only [hy]
        rw [←h1, ←h2]
        exact hdf
       ·cases hdf
      rw [this]
      have e: (({(toAct t sz d) with defers:=df:: (toAct t sz d).defers}:Act).put x.o.dst undef)=toAct (fPut x.o.dst undef t) sz (df::d):=by
       have:=fPut_ok (t:=t) (d:=df::d) hk undef
       rw [this]
       rfl
      simp only
      rw [e]
      exact fOps_ok hx l hl' h
     ·cases h
   ·rename_i hnd
    split at h
    ·rename_i v s1 hv
     have:=hx _ x.o (toAct t sz d) s _ (fEv_ok hk) hv
     have ih:=fOps_ok hx l hl' h
     rw [fPut_ok hk] at ih
     split
     ·rename_i c hc
      exact absurd hc (hnd c)
     ·rw [this]
      exact ih
    ·cases h
  ·rename_i hw
   rw [if_neg hw]
   have ih:=fOps_ok hx l hl' h
   rw [fPut_ok hk] at ih
   exact ih
end
end Go.Proofs.YtdcioacjhpnihaaGreatDoor
namespace Go.Proofs.YtdcioacjhpnihaaGreatDoor
open Go
noncomputable section
def eal (C:Cfg) (ev:Operand→Option Value) (o:Oper) (k:Nat):Option (Obj × Value):=match o.op with
 | .alloc t=>match azero C t with
  |some z=>some (.cells z.cells t (0,0), .pointer (some ⟨k,0,none⟩))
  |none=>none
 | .box t x=>match ev x with
  |some v=>some (.cells v.cells t (0,0), .pointer (some ⟨k,0,none⟩))
  |none=>none
 | .buildSlice t len ps=>match eparts ev ps.toList,C.und t with
  |some l,some (.slice e)=>match C.size e,azero C e with
   |some z,some zv=>if len*z≤1048576∧(zrow zv (len*z)).all flat1=true then match Instr.fill (fun i=>some (i*z,z)) (zrow zv (len*z)) l with
     |some c=>some (.cells c e (0,0), .slice (some ⟨k,0,none⟩) len len)
     |none=>none else none
   |_,_=>none
  |_,_=>none
 | .convert t u x=>match ev x,C.und t,C.und u with
  |some (.string b),some .string,some (.slice e)=>match C.und e,C.size e with
   |some (.int .u8),some 1=>if b.size≤1048576 then some (.cells (byteCells b).toArray e (0,0), .slice (some ⟨k,0,some 0⟩) b.size b.size) else none
   |_,_=>none
  |_,_,_=>none
 |_=>none
theorem eal_eq {C:Cfg} {ev:Operand→Option Value} {a:Act} {o:Oper} (h: ∀x∈o.op.operands,ev x=aev C a x) (k:Nat):eal C ev o k=aal C a o k:=by
 obtain ⟨dst,op,ty,pos,aft,gd⟩:=o
 cases op with
 |box t x=>simp only [eal,aal];rw [h x (by simp [Op.operands])];rfl
 |convert t u x=>simp only [eal,aal];rw [h x (by simp [Op.operands])];rfl
 |buildSlice t n ps=>simp only [eal,aal];rw [eparts_eq ps.toList fun x hx=>h x.2 (by simp only [Op.operands,List.mem_toArray,List.mem_map];exact ⟨x,hx,rfl⟩)];rfl
 |_=>rfl
def pwS (ops:Array Oper) (M:List Nat) (x y:FO):Bool:=
 x.i !=y.i&& (match x.o.dst,y.o.dst with |some t,some u=>t !=u |_,_=>true)&&
 (match y.o.dst with |some t=> !(readsOf ops x.o).contains t || (M.getD x.i 0).testBit y.i |none=>true)&&
 (match x.o.dst with |some t=> !(readsOf ops y.o).contains t || (M.getD x.i 0).testBit y.i |none=>true)&&
 (kindOf x.o==0 ||kindOf x.o==1 ||kindOf y.o==0 || (M.getD x.i 0).testBit y.i)
theorem pwS_pw {ops:Array Oper} {M:List Nat} {x y:FO} {r q:Rec} (h:pwS ops M x y=true) (h1:r.i=x.i) (h2:r.o=x.o) (h3:q.i=y.i) (h4:q.o=y.o) (h5:r.kd=2→kindOf x.o≠0∧kindOf x.o≠1) (h6:q.kd≠0→kindOf y.o≠0):pw ops M r q=true:=by
 unfold pwS at h
 unfold pw
 rw [h1,h2,h3,h4]
 rw [Bool.and_eq_true] at h ⊢
 refine ⟨h.1,?_⟩
 have h7:=h.2
 simp only [Bool.or_eq_true,beq_iff_eq,bne_iff_ne] at h7 ⊢
 by_cases hr:r.kd=2
 ·by_cases hq:q.kd=0
  ·exact .inl (.inr hq)
  ·rcases h7 with ((h7 |h7)|h7)|h7
   ·exact absurd h7 (h5 hr).1
   ·exact absurd h7 (h5 hr).2
   ·exact absurd h7 (h6 hq)
   ·exact .inr h7
 ·exact .inl (.inl hr)
def sqOk (ops:Array Oper) (M:List Nat):List FO→List FO→Bool
 | [],_=>true
 |x::l,dn=>dn.all (pwS ops M x)&&sqOk ops M l (x::dn)
structure Drw where
 M:List Nat
 sq:List FO
def drwOf (ops:Array Oper) (sz:Nat):Option Drw:=match masks ops.toList [] with
 |some M=>match decL ops sz (mkSeq ops.toList M 0 [] ops.size) with
  |some sq=>if sqOk ops M sq [] && (List.range ops.size).all (fun i=>sq.any (fun x=>x.i==i)) then some ⟨M,sq⟩ else none
  |none=>none
 |none=>none
abbrev FX:=(Operand→Option Value)→Oper→AS→Option (Value × AS)
structure FR where
 t:T Value
 s:AS
 effs:List (Nat × Nat)
 gs:List AS
 loads:List (FO × T Value × Value)
def fRun (C:Cfg) (P:Program) (fx:FX) (base n:Nat):List FO→T Value→AS→AS→List (Nat × Nat)→List AS→List (FO × T Value × Value)→Nat→Option FR
 | [],t,_,s,effs,gs,loads,_=>some ⟨t,s,effs,gs,loads⟩
 |x::l,t,g,s,effs,gs,loads,k=>
  if fWant x t then (match kindOf x.o with
   |0=>match fop C P (evT C t) g x.o with
    |some (v,_)=>fRun C P fx base n l (fPut x.o.dst v t) g s effs gs (if looksM x.o then (x,t,v)::loads else loads) k
    |none=>none
   |1=>match eal C (evT C t) x.o (base+x.i) with
    |some (ob,v)=>match aput s (base+x.i) (some ob) with
     |some s'=>fRun C P fx base n l (fPut x.o.dst v t) g s' effs gs loads k
     |none=>none
    |none=>none
   |_=>match fx (evT C t) x.o s with
    |some (v,s')=>if base+n≤s'.n∧l.all (fun y=>kindOf y.o !=1 || (s'.h.get (base+y.i)).isNone)=true then fRun C P fx base n l (fPut x.o.dst v t) s' s' (effs++ [(x.i,k)]) (gs++ [s']) loads (k+1) else none
    |none=>none)
  else fRun C P fx base n l (fPut x.o.dst undef t) g s effs gs loads k
def fstay (C:Cfg) (P:Program) (M:List Nat) (effs:List (Nat × Nat)) (gs:List AS) (x:FO × T Value × Value):Bool:=
 gs.zipIdx.all fun (g,k)=> !(effs.all fun (e,q)=>(!(M.getD x.1.i 0).testBit e ||decide (q<k))&& (!(M.getD e 0).testBit x.1.i ||decide (k≤q)))|| (match fop C P (evT C x.2.1) g x.1.o with
  |some (v,_)=>veq 8 v x.2.2
  |none=>false)
def fDraw (C:Cfg) (P:Program) (fx:FX) (ops:Array Oper) (sz:Nat) (t:T Value) (s:AS):Option (T Value × AS):=match drwOf ops sz with
 |some D=>match fRun C P fx s.n ops.size D.sq t ⟨s.h,s.n+ops.size⟩ ⟨s.h,s.n+ops.size⟩ [] [⟨s.h,s.n+ops.size⟩] [] 0 with
  |some r=>if r.loads.all (fstay C P D.M r.effs r.gs) then some (r.t,r.s) else none
  |none=>none
 |none=>none
section
variable {C:Cfg} {P:Program} {fx:FX} {xo:Oper→Act→AS→Option (Value × AS)} (hx: ∀ev o a s r,(∀y∈o.op.operands,ev y=aev C a y)→fx ev o s=some r→xo o a s=some r)
 {ops:Array Oper} {M:List Nat} {sz base:Nat} {s0:AS} {a0:Act} {d:List Deferred}
include hx
set_option maxHeartbeats 1000000 in
theorem fRun_ok: ∀ (l:List FO) {t:T Value} {g s:AS} {effs:List (Nat × Nat)} {gs:List AS} {loads:List (FO × T Value × Value)} {k:Nat} {r:FR},fRun C P fx base ops.size l t g s effs gs loads k=some r→
  ∀ (rs:List Rec) (dn:List FO),Run C P xo ops M base s0 a0 rs→toAct t sz d=actOf a0 rs→g=gOf s0 rs→s=sOf s0 rs→k=kOf rs→gs=gsOf s0 rs→effs=effsOf rs→
  (∀q∈rs, ∃y∈dn,q.i=y.i∧q.o=y.o∧(q.kd≠0→kindOf y.o≠0))→sqOk ops M l dn=true→(∀x∈l,FOk ops sz x)→(∀i,i<ops.size→l.any (fun x=>x.i==i)=true∨has rs i=true)→
  (∀q∈rs,q.kd=0→q.w=true→looksM q.o=true→ ∃x∈loads,x.1.i=q.i∧x.1.o=q.o∧FOk ops sz x.1∧toAct x.2.1 sz d=q.a∧x.2.2=q.v)→
  ∃rs',Run C P xo ops M base s0 a0 rs'∧toAct r.t sz d=actOf a0 rs'∧r.s=sOf s0 rs'∧(∀i,i<ops.size→has rs' i=true)∧r.gs=gsOf s0 rs'∧r.effs=effsOf rs'∧
   (∀q∈rs',q.kd=0→q.w=true→looksM q.o=true→ ∃x∈r.loads,x.1.i=q.i∧x.1.o=q.o∧FOk ops sz x.1∧toAct x.2.1 sz d=q.a∧x.2.2=q.v)
 | [],t,g,s,effs,gs,loads,k,r,h,rs,dn,hR,ha,hg,hs,hk,hgs,he,hdn,hsq,hfo,hall,hld=>by
  cases h
  exact ⟨rs,hR,ha,hs,fun i hi=>(hall i hi).resolve_left (by simp),hgs,he,hld⟩
 |x::l,t,g,s,effs,gs,loads,k,r,h,rs,dn,hR,ha,hg,hs,hk,hgs,he,hdn,hsq,hfo,hall,hld=>by
  have hxo:=hfo x (by simp)
  have hfo':=fun y hy=>hfo y (List.mem_cons_of_mem x hy)
  simp only [sqOk,Bool.and_eq_true] at hsq
  obtain ⟨hp,hsq'⟩:=hsq
  have hw:=fWant_ok (t:=t) (d:=d) hxo
  have hev:=fEv_ok (C:=C) (t:=t) (d:=d) hxo
  have go: ∀ (rc:Rec),rc.i=x.i→rc.o=x.o→(rc.kd=2→kindOf x.o≠0∧kindOf x.o≠1)→(rc.kd≠0→kindOf x.o≠0)→Facts C P xo ops base s0 a0 rc rs→
    Run C P xo ops M base s0 a0 (rc::rs)∧(∀q∈rc::rs, ∃y∈x::dn,q.i=y.i∧q.o=y.o∧(q.kd≠0→kindOf y.o≠0))∧(∀i,i<ops.size→l.any (fun x=>x.i==i)=true∨has (rc::rs) i=true):=fun rc h1 h2 h3 h4 hf=>by
   refine ⟨.cons hR (List.all_eq_true.2 fun q hq=> ?_) hf,fun q hq=> ?_,fun i hi=> ?_⟩
   ·obtain ⟨y,hy,q1,q2,q3⟩:=hdn q hq
    exact pwS_pw (List.all_eq_true.1 hp y hy) h1 h2 q1 q2 h3 q3
   ·rcases List.mem_cons.1 hq with rfl |hq
    ·exact ⟨x,by simp,h1,h2,h4⟩
    ·obtain ⟨y,hy,q1⟩:=hdn q hq
     exact ⟨y,List.mem_cons_of_mem _ hy,q1⟩
   ·rcases hall i hi with hh |hh
    ·rw [List.any_cons,Bool.or_eq_true] at hh
     rcases hh with hh |hh
     ·exact .inr (by rw [has_cons,h1];simp [hh])
     ·exact .inl hh
    ·exact .inr (by rw [has_cons,hh];simp)
  unfold fRun at h
  split at h
  ·rename_i hwt
   have hwt':Region.wanted x.o (yielded ops (actOf a0 rs).tmps)=true:=by rw [←ha, ←hw];exact hwt
   split at h
   ·rename_i hkd
    split at h
    ·rename_i v y hv
     have hv':=fop_ok (a:=toAct t sz d) hev hv
     obtain ⟨g1,g2,g3⟩:=go ⟨x.i,x.o,actOf a0 rs,true,0,v,s, .deferred none⟩ rfl rfl (fun e=>by cases e) (fun e=>absurd rfl e) ⟨hxo.at_,rfl,hwt'.symm, .inr (.inl ⟨rfl,rfl,hkd,y,by rw [←hg, ←ha];exact hv'⟩)⟩
     refine fRun_ok l h _ _ g1 ?_ ?_ ?_ ?_ ?_ ?_ g2 hsq' hfo' g3 fun q hq e1 e2 e3=> ?_
     ·rw [fPut_ok hxo,ha];rfl
     ·simp [gOf,hg]
     ·simp [sOf,hs]
     ·simp [kOf,hk]
     ·simp [gsOf,hgs]
     ·simp [effsOf,he]
     ·rcases List.mem_cons.1 hq with rfl |hq
      ·simp only at e3
       rw [if_pos e3]
       exact ⟨(x,t,v),by simp,rfl,rfl,hxo,ha,rfl⟩
      ·obtain ⟨z,hz,hz2⟩:=hld q hq e1 e2 e3
       refine ⟨z,?_,hz2⟩
       split
       ·exact List.mem_cons_of_mem _ hz
       ·exact hz
    ·cases h
   ·rename_i hkd
    split at h
    ·rename_i ob v hv
     split at h
     ·rename_i s' hput
      rw [eal_eq hev,ha] at hv
      obtain ⟨g1,g2,g3⟩:=go ⟨x.i,x.o,actOf a0 rs,true,1,v,s',ob⟩ rfl rfl (fun e=>by cases e) (fun _ e=>by rw [hkd] at e;cases e) ⟨hxo.at_,rfl,hwt'.symm, .inr (.inr (.inl ⟨rfl,rfl,hkd,hv,by rw [←hs];exact hput⟩))⟩
      refine fRun_ok l h _ _ g1 ?_ ?_ ?_ ?_ ?_ ?_ g2 hsq' hfo' g3 fun q hq e1 e2 e3=> ?_
      ·rw [fPut_ok hxo,ha];rfl
      ·simp [gOf,hg]
      ·simp [sOf]
      ·simp [kOf,hk]
      ·simp [gsOf,hgs]
      ·simp [effsOf,he]
      ·rcases List.mem_cons.1 hq with rfl |hq
       ·cases e1
       ·exact hld q hq e1 e2 e3
     ·cases h
    ·cases h
   ·rename_i hk0 hk1
    split at h
    ·rename_i v s' hv
     split at h
     ·rename_i hq
      have hv':=hx _ x.o (toAct t sz d) s _ hev hv
      rw [ha] at hv'
      obtain ⟨g1,g2,g3⟩:=go ⟨x.i,x.o,actOf a0 rs,true,2,v,s', .deferred none⟩ rfl rfl (fun _=>⟨hk0,hk1⟩) (fun _=>hk0) ⟨hxo.at_,rfl,hwt'.symm, .inr (.inr (.inr ⟨rfl,rfl,by rw [←hs];exact hv',hq.1,fun j oj hj hkj hn=>by
       have hjl:=(Array.getElem?_eq_some_iff.1 hj).1
       rcases hall j hjl with hh |hh
       ·rw [List.any_cons,Bool.or_eq_true] at hh
        rcases hh with hh |hh
        ·rw [beq_iff_eq] at hh
         subst hh
         have:=hxo.at_
         rw [hj] at this
         cases this
         exact absurd hkj hk1
        ·obtain ⟨y,hy,hyi⟩:=List.any_eq_true.1 hh
         rw [beq_iff_eq] at hyi
         subst hyi
         have hyo:=(hfo' y hy).at_
         rw [hj] at hyo
         cases hyo
         have:=List.all_eq_true.1 hq.2 y hy
         simp only [hkj,bne_self_eq_false,Bool.false_or] at this
         exact Option.isNone_iff_eq_none.1 this
       ·rw [hn] at hh;cases hh⟩))⟩
      refine fRun_ok l h _ _ g1 ?_ ?_ ?_ ?_ ?_ ?_ g2 hsq' hfo' g3 fun q hq' e1 e2 e3=> ?_
      ·rw [fPut_ok hxo,ha];rfl
      ·simp [gOf]
      ·simp [sOf]
      ·simp [kOf,hk]
      ·simp [gsOf,hgs]
      ·simp [effsOf,he,hk]
      ·rcases List.mem_cons.1 hq' with rfl |hq'
       ·cases e1
       ·exact hld q hq' e1 e2 e3
     ·cases h
    ·cases h
  ·rename_i hwt
   have hwt':Region.wanted x.o (yielded ops (actOf a0 rs).tmps)=false:=by rw [←ha, ←hw];simpa using hwt
   obtain ⟨g1,g2,g3⟩:=go ⟨x.i,x.o,actOf a0 rs,false,0,undef,s, .deferred none⟩ rfl rfl (fun e=>by cases e) (fun e=>absurd rfl e) ⟨hxo.at_,rfl,hwt'.symm, .inl ⟨rfl,rfl,rfl⟩⟩
   refine fRun_ok l h _ _ g1 ?_ ?_ ?_ ?_ ?_ ?_ g2 hsq' hfo' g3 fun q hq e1 e2 e3=> ?_
   ·rw [fPut_ok hxo,ha];rfl
   ·simp [gOf,hg]
   ·simp [sOf,hs]
   ·simp [kOf,hk]
   ·simp [gsOf,hgs]
   ·simp [effsOf,he]
   ·rcases List.mem_cons.1 hq with rfl |hq
    ·cases e2
    ·exact hld q hq e1 e2 e3
end
section
variable {F:Fence} {f:Nat} {C:Cfg} {P:Program} {fx:FX} {xo:Oper→Act→AS→Option (Value × AS)} {ops:Array Oper} {sz:Nat}
theorem fDraw_ok (hC:C.ok P) (hF: ∀g,F.fn g) (hx: ∀ev o a s r,(∀y∈o.op.operands,ev y=aev C a y)→fx ev o s=some r→xo o a s=some r) (hxo: ∀o a s v s',xo o a s=some (v,s')→OpT F f P C o a s.mem v s'.mem) (hm:P.follows .mixedOrders=true)
  {t t':T Value} {d:List Deferred} {s s':AS} (h:fDraw C P fx ops sz t s=some (t',s')) {ι:Emb} {w:World} {ac:Act} (hr:Rep P C.G ι s.mem w) (ha:AR ι (toAct t sz d) ac) {Q:Exit→Act→World→Prop}
  (hQ: ∀ι' w' ac',Tr P C.G ι s.mem w ι' s'.mem w'→AR ι' (toAct t' sz d) ac'→Q .normal ac' w') {id:Nat}: (Code.region id ops true).wpIn F f P Q ac w:=by
 unfold fDraw at h
 split at h
 ·rename_i D hD
  unfold drwOf at hD
  split at hD
  ·rename_i M hM
   split at hD
   ·rename_i sq hsq
    split at hD
    ·rename_i hq
     cases hD
     rw [Bool.and_eq_true] at hq
     obtain ⟨hidx,hfo⟩:=decL_ok hsq
     split at h
     ·rename_i r hr2
      split at h
      ·rename_i hst
       cases h
       obtain ⟨rs,hR,e1,e2,e3,e4,e5,e6⟩:=fRun_ok hx (M:=M) (sz:=sz) (s0:=⟨s.h,s.n+ops.size⟩) (a0:=toAct t sz d) (d:=d) sq hr2 [] [] .nil rfl rfl rfl rfl rfl rfl (fun q hq=>by cases hq) hq.1 hfo
        (fun i hi=> .inl (List.all_eq_true.1 hq.2 i (List.mem_range.2 hi))) (fun q hq=>by cases hq)
       refine drawn_ok hC hF hxo hm hM hR ⟨List.all_eq_true.2 fun i hi=>e3 i (List.mem_range.1 hi),List.all_eq_true.2 fun q hq'=> ?_⟩ hr ha fun ι' w' ac' ht har=>hQ ι' w' ac' (by rw [e2];exact ht) (by rw [e1];exact har)
       unfold stays
       by_cases hc: (q.kd==0&&q.w&&looksM q.o)=true
       ·rw [hc]
        simp only [Bool.not_true,Bool.false_or]
        simp only [Bool.and_eq_true,beq_iff_eq] at hc
        obtain ⟨x,hx1,p1,p2,p3,p4,p5⟩:=e6 q hq' hc.1.1 hc.1.2 hc.2
        have:=List.all_eq_true.1 hst x hx1
        unfold fstay at this
        rw [e4,e5,p1,p2,p5] at this
        refine List.all_eq_true.2 fun z hz=> ?_
        have hz2:=List.all_eq_true.1 this z hz
        simp only [Bool.or_eq_true] at hz2 ⊢
        rcases hz2 with hz2 |hz2
        ·exact .inl hz2
        ·right
         split at hz2
         ·rename_i v y hv
          have:=fop_ok (a:=q.a) (fun y hy=>by rw [←p4];exact fEv_ok p3 y (by rw [p2];exact hy)) hv
          rw [this]
          exact hz2
         ·cases hz2
       ·simp only [Bool.not_eq_true] at hc
        rw [hc]
        rfl
      ·cases h
     ·cases h
    ·cases hD
   ·cases hD
  ·cases hD
 ·cases h
end
end
end Go.Proofs.YtdcioacjhpnihaaGreatDoor
namespace Go.Proofs.YtdcioacjhpnihaaGreatDoor
open Go
noncomputable section
def ofL (l:List Value):Nat→T Value→T Value:=fun k t=>match l with
 | [] =>t
 |v::l=>ofL l (k+1) (t.put 100000 k (some v))
theorem ofL_get: ∀ (l:List Value) (k:Nat) (t:T Value) (j:Nat),k+l.length≤100000→(ofL l k t).get j=if k≤j∧j<k+l.length then l[j-k]? else t.get j
 | [],k,t,j,_=>by
  simp only [ofL,List.length_nil,Nat.add_zero]
  rw [if_neg (by omega)]
 |v::l,k,t,j,h=>by
  simp only [List.length_cons] at h
  simp only [ofL]
  rw [ofL_get l (k+1) _ j (by omega),T.get_put _ _ _ _ _ (by omega)]
  simp only [List.length_cons]
  by_cases h1:j=k
  ·subst h1
   rw [if_neg (by omega),if_pos rfl,if_pos (by omega)]
   simp
  ·by_cases h2:k+1≤j∧j<k+1+l.length
   ·rw [if_pos h2,if_pos (by omega)]
    have:j-k=(j- (k+1))+1:=by omega
    rw [this]
    simp
   ·rw [if_neg h2,if_neg h1,if_neg (by omega)]
theorem toAct_of (l:List Value) (sz:Nat) (d:List Deferred) (h:l.length≤sz) (h2:l.length≤100000):toAct (ofL l 0 .leaf) sz d=⟨l.toArray++Array.replicate (sz-l.length) undef,d⟩:=by
 have: (toAct (ofL l 0 .leaf) sz d).tmps=l.toArray++Array.replicate (sz-l.length) undef:=by
  refine Array.ext_getElem? fun j=> ?_
  rw [toAct_get,ofL_get l 0 .leaf j (by omega)]
  simp only [Nat.zero_le,true_and,Nat.zero_add,Nat.sub_zero,T.get_leaf]
  by_cases hj:j<l.length
  ·rw [if_pos (by omega),if_pos hj,Array.getElem?_append_left (by simpa using hj)]
   simp [hj]
  ·rw [if_neg hj,Array.getElem?_append_right (by simp;omega)]
   simp only [List.size_toArray,Array.getElem?_replicate,Option.getD_none]
   by_cases h3:j<sz
   ·rw [if_pos h3,if_pos (by omega)]
   ·rw [if_neg h3,if_neg (by omega)]
 have e:toAct (ofL l 0 .leaf) sz d=⟨(toAct (ofL l 0 .leaf) sz d).tmps,d⟩:=rfl
 rw [e,this]
abbrev FCd:=Option Nat→Nat→Code→T Value→List Deferred→AS→Option (AX × T Value × List Deferred × AS)
abbrev FCl:=FuncId→List Value→AS→Option (Value × AS)
def fResult (E:Env) (sz:Nat) (t:T Value) (s:AS):ResultVar→Option Value
 | .tmp k=>if k<sz then some ((t.get k).getD undef) else none
 | .cell k ty=>if k<sz then aload E.C s ty ((t.get k).getD undef) else none
def fResults (E:Env) (sz:Nat) (t:T Value) (s:AS):List ResultVar→Option (List Value)
 | [] =>some []
 |r::rs=>match fResult E sz t s r,fResults E sz t s rs with
  |some v,some vs=>some (v::vs)
  |_,_=>none
theorem fResult_eq {E:Env} {sz:Nat} {t:T Value} {s:AS} {d:List Deferred} {r:ResultVar} {v:Value} (h:fResult E sz t s r=some v):xResult E (toAct t sz d) s r=some v:=by
 cases r with
 |tmp k=>
  simp only [fResult] at h
  split at h
  ·rename_i hk;simp only [xResult,toAct_get,if_pos hk];exact h
  ·cases h
 |cell k ty=>
  simp only [fResult] at h
  split at h
  ·rename_i hk;simp only [xResult,toAct_get,if_pos hk];exact h
  ·cases h
theorem fResults_eq {E:Env} {sz:Nat} {t:T Value} {s:AS} {d:List Deferred}: ∀ {l:List ResultVar} {vs:List Value},fResults E sz t s l=some vs→xResults E (toAct t sz d) s l=some vs
 | [],vs,h=>h
 |r::l,vs,h=>by
  unfold fResults at h
  unfold xResults
  split at h
  ·rename_i v us hv hus
   rw [fResult_eq hv,fResults_eq hus]
   exact h
  ·cases h
def fBody (E:Env) (fc:FCd) (fn:Func) (c:Code) (args:List Value) (s:AS):Option (Value × AS):=
 if args.length≤fn.ntmps∧fn.ntmps≤100000 then match fc none fn.ntmps c (ofL args 0 .leaf) [] s with
 |some (.exit _,_,_,_)=>none
 |some (_,t,d,s1)=>match xDefers E d s1 with
  |some s2=>match fResults E fn.ntmps t s2 fn.results.toList with
   |some vs=>some (packV vs,s2)
   |none=>none
  |none=>none
 |none=>none else none
def fCall (E:Env) (fc:FCd):FCl:=fun f args s=>
 match E.orc f args s with
 |some r=>some r
 |none=>match E.fns.get f with
  |some fn=>match fn.body with
   |some c=>fBody E fc fn c args s
   |none=>none
  |none=>none
def fRound (fc:FCd) (l:Nat) (args:List Value) (s:AS):Option (Value × AS):=
 match s.h.get l with
 |some (.loop r)=>if args.length=r.params.size∧r.tmps.size≤100000 then (match fc (some l) r.tmps.size r.assign (ofL (setAll r.tmps (r.params.toList.zip args)).toList 0 .leaf) [] s with
  |some (.normal,t1,d1,s1)=>match s1.h.get l with
   |some (.loop r1)=>if r1.state= .ready then (match aput s1 l (some (.loop {r1 with state:= .busy})) with
    |some s2=>match fc (some l) r.tmps.size r.body t1 d1 s2 with
     |some (e,_,_,s3)=>match s3.h.get l with
      |some (.loop r3)=>match aput s3 l (some (.loop {r3 with state:=if (jumpOf e).isNone then .ready else .done,pending:=jumpOf e})) with
       |some s4=>some (.bool (jumpOf e).isNone,s4)
       |none=>none
      |_=>none
     |none=>none
    |none=>none) else none
   |_=>none
  |_=>none) else none
 |_=>none
def xRangeG (E:Env) (call:FCl) (ro:Option Nat) (g:Operand) (ps:Array Tmp) (assign body:Code) (a:Act) (s:AS):Option (AX × Act × AS):=
 match xBlock ro s with
 |some (d,mark,s1)=>match anew s1 (.loop {state:= .ready,pending:=none,fn:=0,tmps:=a.tmps,params:=ps,assign,body,defers:=d}) with
  |some (l,s2)=>match aev E.C a g with
   |some (.func (.func gf) fs cap)=>if fs.isEmpty then (match call gf (.func (.yield l) #[] #[] ::cap.toList) s2 with
    |some (_,s3)=>match s3.h.get l with
     |some (.loop r)=>if r.state≠ .busy then (match aput s3 l (some (.loop {r with state:= .exhausted})) with
      |some s4=>match r.pending with
       |none=>some (.normal,{a with defers:=mark++a.defers},s4)
       |some .ret=>some (.ret,{a with defers:=mark++a.defers},s4)
       |some (.exit id)=>some (.exit id,{a with defers:=mark++a.defers},s4)
       |_=>none
      |none=>none) else none
     |_=>none
    |none=>none) else none
   |_=>none
  |none=>none
 |none=>none
def cSeq (rc:FCd) (ro:Option Nat) (sz:Nat) (x y:Code) (t:T Value) (d:List Deferred) (s:AS):Option (AX × T Value × List Deferred × AS):=match rc ro sz x t d s with
 |some (.normal,t',d',s')=>rc ro sz y t' d' s'
 |r=>r
def cCond (E:Env) (rc:FCd) (ro:Option Nat) (sz:Nat) (c:Operand) (x y:Code) (t:T Value) (d:List Deferred) (s:AS):Option (AX × T Value × List Deferred × AS):=if tmpOk sz c then (match evT E.C t c with
 |some (.bool b)=>rc ro sz (if b then x else y) t d s
 |_=>none) else none
def cBlock (rc:FCd) (ro:Option Nat) (sz:Nat) (id:Nat) (c:Code) (t:T Value) (d:List Deferred) (s:AS):Option (AX × T Value × List Deferred × AS):=match rc ro sz c t d s with
 |some (.exit id',t',d',s')=>if id'=id then some (.normal,t',d',s') else some (.exit id',t',d',s')
 |r=>r
def cLoop (rc:FCd) (ro:Option Nat) (sz:Nat) (c:Code) (t:T Value) (d:List Deferred) (s:AS):Option (AX × T Value × List Deferred × AS):=match rc ro sz c t d s with
 |some (.normal,t',d',s')=>rc ro sz (.loop c) t' d' s'
 |r=>r
def cDraw (E:Env) (rc:FCd) (sz:Nat) (ops:Array Oper) (t:T Value) (d:List Deferred) (s:AS):Option (AX × T Value × List Deferred × AS):=match fDraw E.C E.P (fxo E (fCall E rc) (fRound rc)) ops sz t s with
 |some (t',s')=>some (.normal,t',d,s')
 |none=>none
def cOps (E:Env) (rc:FCd) (ro:Option Nat) (sz:Nat) (ops:Array Oper) (t:T Value) (d:List Deferred) (s:AS):Option (AX × T Value × List Deferred × AS):=match decL ops sz (List.range ops.size) with
 |some l=>match fOps E.C ro.isSome (fxo E (fCall E rc) (fRound rc)) l t d s with
  |some (t',d',s')=>some (.normal,t',d',s')
  |none=>none
 |none=>none
def cRange (E:Env) (rc:FCd) (ro:Option Nat) (sz:Nat) (g:Operand) (ps:Array Tmp) (assign body:Code) (t:T Value) (d:List Deferred) (s:AS):Option (AX × T Value × List Deferred × AS):=match xRangeG E (fCall E rc) ro g ps assign body (toAct t sz d) s with
 |some (e,a',s')=>some (e,t,a'.defers,s')
 |none=>none
def stepC (E:Env) (rc:FCd):FCd:=fun ro sz c t d s=>match c with
 | .skip=>some (.normal,t,d,s)
 | .label _=>some (.normal,t,d,s)
 | .scope c=>rc ro sz c t d s
 | .exit id=>some (.exit id,t,d,s)
 | .ret=>some (.ret,t,d,s)
 | .seq x y=>cSeq rc ro sz x y t d s
 | .cond c x y=>cCond E rc ro sz c x y t d s
 | .block id c=>cBlock rc ro sz id c t d s
 | .loop c=>cLoop rc ro sz c t d s
 | .region _ ops draw=>if draw then cDraw E rc sz ops t d s else cOps E rc ro sz ops t d s
 | .rangeFunc g ps assign body=>cRange E rc ro sz g ps assign body t d s
 |_=>none
def fCode (E:Env) (n:Nat):FCd:=Nat.rec (motive:=fun _=>FCd) (fun _ _ _ _ _ _=>none) (fun _ ih=>stepC E ih) n
theorem fCode_succ (E:Env) (n:Nat):fCode E (n+1)=stepC E (fCode E n):=rfl
section
variable {E:Env}
theorem xRangeG_ok {call:FuncId→List Value→AS→Option (Value × AS)} (hcl: ∀f args s v s',call f args s=some (v,s')→CallOk E f args s v s') {ro:Option Nat} {g:Operand} {ps:Array Tmp} {assign body:Code} {a a':Act} {s s':AS} {e:AX} (h:xRangeG E call ro g ps assign body a s=some (e,a',s')) {ι:Emb} {w:World} {ac:Act} (hr:Rep E.P E.C.G ι s.mem w) (ha:AR ι a ac) {ro':Option Nat} (hro:roR ι ro ro') (n:Nat) {Q:Exit→Act→World→Prop}
  (hQ: ∀ι' w' ac',Tr E.P E.C.G ι s.mem w ι' s'.mem w'→AR ι' a' ac'→Q e.ex ac' w'): (Code.rangeFunc g ps assign body).wpIn (frF ro') n E.P Q ac w:=by
 unfold xRangeG at h
 split at h
 ·rename_i d mark s1 hblk
  split at h
  ·rename_i l s2 hnew
   split at h
   ·rename_i gf fs cap hg
    split at h
    ·split at h
     ·rename_i v3 s3 hcall
      split at h
      ·rename_i r hget
       split at h
       ·rename_i hst
        split at h
        ·rename_i s4 hput
         refine wpIn_rangeFunc fun fn _=> ?_
         obtain ⟨ι1,w1,d',mark',ht1,hd,hmk,hrun⟩:=xBlock_ok hblk hr hro fn ac.tmps ps assign body
         unfold anew at hnew
         have hnew':anew s1 (.loop {state:= .ready,pending:=none,fn:=0,tmps:=a.tmps,params:=ps,assign,body,defers:=d})=some (l,s2):=hnew
         obtain ⟨rfl,hn,hgt⟩:=anew_ok hnew'
         have hl1:ι1.le (ι1.add s1.n w1.heap.size 0):=Emb.le_add (ht1.rep.new _ (Nat.le_refl _))
         have ht2:Tr E.P E.C.G ι1 s1.mem w1 (ι1.add s1.n w1.heap.size 0) s2.mem (w1.alloc (.loop {state:= .ready,pending:=none,fn,tmps:=ac.tmps,params:=ps,assign,body,defers:=d'})):=
          Tr.new ht1.rep (Nat.le_refl _) hgt (by show s1.n<s2.n;omega) ⟨rfl,rfl,(ha.t.mono ht1.le).mono hl1,rfl,rfl,rfl,(hl1 _ _ hd).1⟩
         obtain ⟨ι2,w2,hι2,hw2⟩: ∃ι2 w2,ι2=ι1.add s1.n w1.heap.size 0∧w2=w1.alloc (.loop {state:= .ready,pending:=none,fn,tmps:=ac.tmps,params:=ps,assign,body,defers:=d'}):=⟨_,_,rfl,rfl⟩
         rw [←hι2, ←hw2] at ht2
         rw [←hw2] at hrun
         have hbl:ι2.b s1.n=some w1.heap.size:=by rw [hι2];exact Emb.add_b ..
         have hle2:ι.le ι2:=ht1.le.trans ht2.le
         obtain ⟨cap',eg,hcap⟩: ∃cap',ac.eval g= .func (.func gf) #[] cap'∧VRs ι cap cap':=by
          have:=ha.opv hr g _ hg
          generalize ac.eval g=q at this
          cases this with
          |func _ hb1 hb2 h1 h2=>
           have hf0:fs= #[] :=by simpa using ‹fs.isEmpty=true›
           subst hf0
           have:=Array.eq_empty_of_size_eq_zero hb1.symm
           subst this
           exact ⟨_,rfl,h1,h2⟩
         obtain ⟨c1,c2⟩:=hcl _ _ _ _ _ hcall
         have hargs:VRl ι2 (.func (.yield s1.n) #[] #[] ::cap.toList) (.func (.yield w1.heap.size) #[] #[] ::cap'.toList):=VRl.cons (.yield hbl) (VRl.of_s (hcap.mono hle2))
         refine ⟨w1.heap.size,mark',w2,{target:= .fn (.func gf) cap',args:= #[.func (.yield w1.heap.size) #[] #[]]},w2,gf,(.func (.yield w1.heap.size) #[] #[] ::cap'.toList).toArray,w2,hrun,?_,fun _ _=>frF_fn ro' _,?_,(fun e=>by rw [frF_depth] at e;cases e),?_⟩
         ·simp only [resolve,eg]
          simp [Deferred.ofValue,Act.eval]
         ·have e2: (#[Value.func (.yield w1.heap.size) #[] #[]] ++cap')=(Value.func (.yield w1.heap.size) #[] #[] ::cap'.toList).toArray:=by apply Array.ext';simp
          simp only [invoke]
          rw [e2]
          exact c1 _ _
         ·refine (callsF (c2 _ _ _ ht2.rep hargs) ro' (n-1)).mono ?_
          rintro e3 w3 ⟨ι3,v',rfl,ht3,_⟩
          have hb3:=(ht3.le _ _ hbl).1
          obtain ⟨b3,o3',q1,hw3,hob3⟩:=ht3.rep.obj _ _ hget
          rw [hb3] at q1
          cases q1
          obtain ⟨r',rfl,u1,u2,u3,u4,u5,u6,u7⟩:=loop_of hob3
          have hend:=run_endLoop (P:=E.P) hw3 (by rw [u1];exact hst)
          have ht4:=putLoop ht3.rep hget hb3 hput (r2':= {r' with state:= .exhausted}) hw3 ⟨rfl,u2,u3,u4,u5,u6,u7⟩
          have htr:=((ht1.trans ht2).trans ht3).trans ht4
          have har:AR ι3 {a with defers:=mark++a.defers} {ac with defers:=mark'++ac.defers}:=⟨ha.t.mono htr.le,DRs.append (hmk.mono (ht2.le.trans ht3.le)) (ha.d.mono htr.le)⟩
          refine ⟨r'.pending,_,hend,?_⟩
          clear hend ht4
          generalize w3.putObj w1.heap.size (.loop {r' with state:= .exhausted})=w4 at htr ⊢
          rw [u2]
          split at h
          ·rename_i hp
           cases h
           rw [hp]
           exact hQ ι3 _ _ htr har
          ·rename_i hp
           cases h
           rw [hp]
           exact wpIn_ret (hQ ι3 _ _ htr har)
          ·rename_i id hp
           cases h
           rw [hp]
           exact wpIn_exit (hQ ι3 _ _ htr har)
          ·cases h
        ·cases h
       ·cases h
      ·cases h
     ·cases h
    ·cases h
   ·cases h
  ·cases h
 ·cases h
theorem xRangeG_act {call:FCl} {ro:Option Nat} {g:Operand} {ps:Array Tmp} {assign body:Code} {a a':Act} {s s':AS} {e:AX} (h:xRangeG E call ro g ps assign body a s=some (e,a',s')):a'.tmps=a.tmps:=by
 unfold xRangeG at h
 repeat' (split at h)
 all_goals first | (cases h;done)| (cases h;rfl)
end
end
end Go.Proofs.YtdcioacjhpnihaaGreatDoor
namespace Go.Proofs.YtdcioacjhpnihaaGreatDoor
open Go
noncomputable section
def FSt (E:Env) (fc:FCd):Prop:= ∀ro sz c t d s e t' d' s',fc ro sz c t d s=some (e,t',d',s')→ ∀ (ι:Emb) (w:World) (ac:Act) (ro':Option Nat) (n:Nat),Rep E.P E.C.G ι s.mem w→AR ι (toAct t sz d) ac→roR ι ro ro'→ ∀Q:Exit→Act→World→Prop,
 (∀ι' w' ac',Tr E.P E.C.G ι s.mem w ι' s'.mem w'→AR ι' (toAct t' sz d') ac'→Q e.ex ac' w')→c.wpIn (frF ro') n E.P Q ac w
section
variable {E:Env} (hE:E.Ok) {fc:FCd} (hx:FSt E fc)
include hE hx
theorem fBody_ok {f:FuncId} {fn:Func} {c:Code} (hf:E.P.funcs[f]? =some fn) (hb:fn.body=some c) {args:List Value} {s s':AS} {v:Value} (h:fBody E fc fn c args s=some (v,s')) {ι:Emb} {w:World} {args':List Value} (hr:Rep E.P E.C.G ι s.mem w) (ha:VRl ι args args'):
  Calls E.P f args'.toArray w fun e w'=> ∃ι' v',e= .returned v'∧Tr E.P E.C.G ι s.mem w ι' s'.mem w'∧VR ι' v v':=by
 unfold fBody at h
 split at h
 ·rename_i hsz
  have hinit:AR ι (toAct (ofL args 0 .leaf) fn.ntmps []) ⟨args'.toArray++Array.replicate (fn.ntmps-args'.toArray.size) undef, []⟩:=by
   rw [toAct_of args fn.ntmps [] hsz.1 (by omega)]
   refine ⟨?_,trivial⟩
   have e: (args'.toArray++Array.replicate (fn.ntmps-args'.toArray.size) undef)=(args'++List.replicate (fn.ntmps-args.length) undef).toArray:=by simp [ha.1]
   have e2: (args.toArray++Array.replicate (fn.ntmps-args.length) undef)=(args++List.replicate (fn.ntmps-args.length) undef).toArray:=by simp
   show VRs ι _ _
   simp only
   rw [e,e2]
   exact (ha.append ⟨by simp,fun i a b h1 h2=>by
    rw [h1] at h2
    cases h2
    have:=List.eq_of_mem_replicate (List.mem_of_getElem? h1)
    rw [this]
    exact VR.undef' ι⟩).s
  refine callsIn_wide.1 (callsIn_of_wp_marks (n:=5) hf hb trivial ?_ rfl)
  split at h
  ·cases h
  ·rename_i e t1 d1 s1 hne hxc
   refine hx none fn.ntmps c _ _ _ _ _ _ _ hxc ι w _ none 5 hr hinit trivial _ fun ι' w' ac' ht har=> ?_
   have fin:LeavesInM Fence.wide 5 E.P fn ac'.tmps (fun e w'=> ∃ι' v',e= .returned v'∧Tr E.P E.C.G ι s.mem w ι' s'.mem w'∧VR ι' v v') ac'.defers .returning w':=by
    split at h
    ·rename_i s2 hd
     split at h
     ·rename_i vs hvs
      cases h
      refine xDefers_ok hE _ hd ht.rep har.d fun w2 ht2=> ?_
      obtain ⟨v',h1,h2⟩:=results_ok hE ht2.rep (a:=toAct t1 fn.ntmps d1) (ac:=ac') (har.t.mono ht2.le) (fResults_eq hvs)
      exact ⟨v',h1,ι',v',rfl,ht.trans ht2,h2⟩
     ·cases h
    ·cases h
   cases e with
   |normal=>exact fin
   |ret=>exact fin
   |exit id=>exact (hne id rfl).elim
  ·cases h
 ·cases h
theorem fCall_ok (f:FuncId) (args:List Value) (s:AS) (v:Value) (s':AS) (h:fCall E fc f args s=some (v,s')):CallOk E f args s v s':=by
 unfold fCall at h
 split at h
 ·rename_i r hr
  cases h
  exact hE.orc f args s v s' hr
 ·split at h
  ·rename_i fn hfn
   obtain ⟨h1,h2⟩:=hE.fns f fn hfn
   split at h
   ·rename_i c hc
    exact ⟨h2,fun ι w args' hr ha=>fBody_ok hE hx h1 hc h hr ha⟩
   ·cases h
  ·cases h
omit hE in
theorem fRound_ok (ro:Option Nat) (n:Nat) (l:Nat) (args:List Value) (s:AS) (v:Value) (s':AS) (h:fRound fc l args s=some (v,s')):RndOk E ro n l args s v s':=by
 intro ι w args' l' hr ha hb
 unfold fRound at h
 split at h
 ·rename_i r hget
  obtain ⟨b,o',e1,hw,hob⟩:=hr.obj l _ hget
  rw [hb] at e1
  cases e1
  obtain ⟨r',rfl,q1,q2,q3,q4,q5,q6,q7⟩:=loop_of hob
  split at h
  ·rename_i hlen
   have hy:=run_yield (P:=E.P) (args:=args'.toArray) hw (by rw [q4];simp;rw [←ha.1];exact hlen.1)
   refine ⟨r'.fn,_,r'.assign,r'.body,hy,?_⟩
   split at h
   ·rename_i t1 d1 s1 hxa
    refine roundIn_of_wpIn (frF_fn ro _) ?_
    have hF: (frF ro).inRound l'=frF (some l'):=by cases ro<;>rfl
    rw [hF,q5]
    have hssz: ∀ (x:List (Tmp × Value)) (t:Array Value),(setAll t x).size=t.size:=by
     intro x
     induction x with
     |nil=>intro t;rfl
     |cons y x ih=>intro t;simp only [setAll];rw [ih];simp
    have hinit:AR ι (toAct (ofL (setAll r.tmps (r.params.toList.zip args)).toList 0 .leaf) r.tmps.size []) ⟨(r'.params.zip args'.toArray).foldl (fun tmps (t,a)=>tmps.setIfInBounds t a) r'.tmps, []⟩:=by
     rw [toAct_of _ _ [] (by simp [hssz]) (by simp [hssz];exact hlen.2)]
     refine ⟨?_,trivial⟩
     have:=setAll_rel r.params.toList args args' r.tmps r'.tmps ha q3
     show VRs ι _ _
     simp only [Array.length_toList,hssz,Nat.sub_self,Array.replicate_zero,Array.append_empty,Array.toArray_toList]
     rw [q4, ←Array.foldl_toList,Array.toList_zip]
     exact this
    refine hx (some l) r.tmps.size r.assign _ _ _ _ _ _ _ hxa ι w _ (some l') n hr hinit hb _ fun ι1 w1 ac1 ht1 har1=> ?_
    show ∃w₂,_∧_
    split at h
    ·rename_i r1 hget1
     have hb1:=(ht1.le l l' hb).1
     obtain ⟨b1,o1',e1,hw1,hob1⟩:=ht1.rep.obj l _ hget1
     rw [hb1] at e1
     cases e1
     obtain ⟨r1',rfl,p1,p2,p3,p4,p5,p6,p7⟩:=loop_of hob1
     split at h
     ·rename_i hst
      split at h
      ·rename_i s2 hput
       have hbr:=run_beginRound (P:=E.P) hw1 (by rw [p1];exact hst)
       refine ⟨_,hbr,?_⟩
       have ht2:=putLoop ht1.rep hget1 hb1 hput (r2':= {r1' with state:= .busy}) hw1 ⟨rfl,p2,p3,p4,p5,p6,p7⟩
       split at h
       ·rename_i e t2 d2 s3 hxb
        rw [q6]
        refine hx (some l) r.tmps.size r.body _ _ _ _ _ _ _ hxb ι1 _ ac1 (some l') n ht2.rep (har1.mono ht2.le) hb1 _ fun ι3 w3 ac3 ht3 har3=> ?_
        split at h
        ·rename_i r3 hget3
         have hb3:=(ht3.le l l' hb1).1
         obtain ⟨b3,o3',e3,hw3,hob3⟩:=ht3.rep.obj l _ hget3
         rw [hb3] at e3
         cases e3
         obtain ⟨r3',rfl,u1,u2,u3,u4,u5,u6,u7⟩:=loop_of hob3
         split at h
         ·rename_i s4 hput4
          cases h
          have hend:=run_endRound (P:=E.P) (jumpOf e) hw3
          have ht4:=putLoop ht3.rep hget3 hb3 hput4 (r2':= {r3' with state:=if (jumpOf e).isNone then .ready else .done,pending:=jumpOf e}) hw3 ⟨rfl,rfl,u3,u4,u5,u6,u7⟩
          have res: ∃v w',(Instr.endRound l' (jumpOf e)).run E.P w3= .ok v w'∧ ∃ι' v',(Ending.returned v)= .returned v'∧Tr E.P E.C.G ι s.mem w ι' s'.mem w'∧VR ι' (.bool (jumpOf e).isNone) v':=
           ⟨_,_,hend,ι3,_,rfl,((ht1.trans ht2).trans ht3).trans ht4, .bool _⟩
          cases e with
          |normal=>exact res
          |ret=>exact res
          |exit id=>exact res
         ·cases h
        ·cases h
       ·cases h
      ·cases h
     ·cases h
    ·cases h
   ·cases h
  ·cases h
 ·cases h
end
section
variable {E:Env} (hE:E.Ok)
include hE
theorem fCode_ok: ∀N,FSt E (fCode E N):=by
 intro N
 induction N using Nat.strongRecOn with
 |_ N ih=>
 cases N with
 |zero=>intro ro sz c t d s e t' d' s' h;cases h
 |succ N=>
  have ih1:FSt E (fCode E N):=ih N (Nat.lt_succ_self N)
  intro ro sz c t d s e t' d' s' h ι w ac ro' n hr ha hro Q hQ
  cases c with
  |skip=>cases h;exact wpIn_skip (hQ ι w ac (Tr.refl hr) ha)
  |label l=>cases h;exact wpIn_label (hQ ι w ac (Tr.refl hr) ha)
  |scope c=>
   simp only [fCode_succ,stepC] at h
   refine wpIn_scope (ih1 ro sz c t d s _ _ _ _ h ι w ac ro' n hr ha hro _ fun ι1 w1 ac1 ht har=>⟨fun l=> ?_,hQ ι1 w1 ac1 ht har⟩)
   cases e<;>simp [AX.ex]
  |exit id=>cases h;exact wpIn_exit (hQ ι w ac (Tr.refl hr) ha)
  |ret=>cases h;exact wpIn_ret (hQ ι w ac (Tr.refl hr) ha)
  |seq x y=>
   simp only [fCode_succ,stepC,cSeq,cCond,cBlock,cLoop,cDraw,cOps,cRange] at h
   refine wpIn_seq ?_
   split at h
   ·rename_i t1 d1 s1 hx
    refine ih1 ro sz x t d s _ _ _ _ hx ι w ac ro' n hr ha hro _ fun ι1 w1 ac1 ht har=> ?_
    exact ih1 ro sz y t1 d1 s1 _ _ _ _ h ι1 w1 ac1 ro' n ht.rep har (hro.mono ht.le) _ fun ι2 w2 ac2 ht2 har2=>hQ ι2 w2 ac2 (ht.trans ht2) har2
   ·rename_i hne
    refine ih1 ro sz x t d s _ _ _ _ h ι w ac ro' n hr ha hro _ fun ι1 w1 ac1 ht har=> ?_
    cases e with
    |normal=>exact (hne t' d' s' h).elim
    |exit id=>exact hQ ι1 w1 ac1 ht har
    |ret=>exact hQ ι1 w1 ac1 ht har
  |cond c x y=>
   simp only [fCode_succ,stepC,cSeq,cCond,cBlock,cLoop,cDraw,cOps,cRange] at h
   split at h
   ·rename_i hok
    split at h
    ·rename_i b hb
     have hc:ac.eval c= .bool b:=by
      have:=ha.opv hr c _ ((evT_aev hok).trans hb)
      generalize ac.eval c=q at this
      cases this
      rfl
     exact wpIn_cond hc (ih1 ro sz _ t d s _ _ _ _ h ι w ac ro' n hr ha hro _ hQ)
    ·cases h
   ·cases h
  |block id c=>
   simp only [fCode_succ,stepC,cSeq,cCond,cBlock,cLoop,cDraw,cOps,cRange] at h
   refine wpIn_block ?_
   split at h
   ·rename_i id' t1 d1 s1 hc
    refine ih1 ro sz c t d s _ _ _ _ hc ι w ac ro' n hr ha hro _ fun ι1 w1 ac1 ht har=> ?_
    show Exit.inBlock id Q (.exit id') ac1 w1
    simp only [Exit.inBlock]
    split at h
    ·rename_i hid
     cases h
     rw [if_pos hid]
     exact hQ ι1 w1 ac1 ht har
    ·rename_i hid
     cases h
     rw [if_neg hid]
     exact hQ ι1 w1 ac1 ht har
   ·rename_i hne
    refine ih1 ro sz c t d s _ _ _ _ h ι w ac ro' n hr ha hro _ fun ι1 w1 ac1 ht har=> ?_
    cases e with
    |normal=>exact hQ ι1 w1 ac1 ht har
    |exit id'=>exact (hne id' t' d' s' h).elim
    |ret=>exact hQ ι1 w1 ac1 ht har
  |loop c=>
   refine wpIn_loop_ix (fun j acj wj=>j≤N+1∧ ∃ιj tj dj sj,fCode E j ro sz (.loop c) tj dj sj=some (e,t',d',s')∧Tr E.P E.C.G ι s.mem w ιj sj.mem wj∧AR ιj (toAct tj sz dj) acj) (N+1) ⟨Nat.le_refl _,ι,t,d,s,h,Tr.refl hr,ha⟩ ?_
   rintro j acj wj ⟨hj,ιj,tj,dj,sj,hxj,htj,haj⟩
   cases j with
   |zero=>cases hxj
   |succ j=>
    have ihj:FSt E (fCode E j):=ih j (by omega)
    simp only [fCode_succ,stepC,cLoop] at hxj
    split at hxj
    ·rename_i t1 d1 s1 hc
     refine ihj ro sz c tj dj sj _ _ _ _ hc ιj wj acj ro' n htj.rep haj (hro.mono htj.le) _ fun ι1 w1 ac1 ht har=> ?_
     exact ⟨j,Nat.lt_succ_self j,by omega,ι1,t1,d1,s1,hxj,htj.trans ht,har⟩
    ·rename_i hne
     refine ihj ro sz c tj dj sj _ _ _ _ hxj ιj wj acj ro' n htj.rep haj (hro.mono htj.le) _ fun ι1 w1 ac1 ht har=> ?_
     cases e with
     |normal=>exact (hne t' d' s' hxj).elim
     |exit id=>exact hQ ι1 w1 ac1 (htj.trans ht) har
     |ret=>exact hQ ι1 w1 ac1 (htj.trans ht) har
  |region id ops draw=>
   simp only [fCode_succ,stepC,cSeq,cCond,cBlock,cLoop,cDraw,cOps,cRange] at h
   have hxo: ∀o a s v s',xOpG E (fCall E (fCode E N)) (fRound (fCode E N)) o a s=some (v,s')→OpT (frF ro') n E.P E.C o a s.mem v s'.mem:=fun o a s v s' h=>xOpG_ok hE ro' n (fCall_ok hE ih1) (fRound_ok ih1 ro' (n-1)) h
   split at h
   ·rename_i hdr
    subst hdr
    split at h
    ·rename_i t1 s1 hrun
     cases h
     exact fDraw_ok (fx:=fxo E (fCall E (fCode E N)) (fRound (fCode E N))) (xo:=xOpG E (fCall E (fCode E N)) (fRound (fCode E N))) hE.C (frF_fn ro') (fun ev o a s r h1 h2=>fxo_ok h1 h2) hxo hE.mixed hrun hr ha (Q:=Q) hQ
    ·cases h
   ·rename_i hdr
    have hdf:draw=false:=by simpa using hdr
    subst hdf
    split at h
    ·rename_i l hl
     split at h
     ·rename_i t1 d1 s1 hrun
      cases h
      obtain ⟨hidx,hfo⟩:=decL_ok hl
      have:=fOps_ok (fx:=fxo E (fCall E (fCode E N)) (fRound (fCode E N))) (xo:=xOpG E (fCall E (fCode E N)) (fRound (fCode E N))) (fun ev o a s r h1 h2=>fxo_ok h1 h2) l hfo hrun
      rw [hidx] at this
      refine wpIn_region ?_
      refine xOps_ok (inR:=ro.isSome) (fun hs=> ?_) (frF_fn ro') hxo _ this hr ha hQ
      cases ro with
      |none=>
       cases ro' with
       |none=>rfl
       |some _=>exact hro.elim
      |some _=>cases hs
     ·cases h
    ·cases h
  |rangeFunc g ps assign body=>
   simp only [fCode_succ,stepC,cSeq,cCond,cBlock,cLoop,cDraw,cOps,cRange] at h
   split at h
   ·rename_i e1 a1 s1 hrun
    cases h
    refine xRangeG_ok (fCall_ok hE ih1) hrun hr ha hro n fun ι1 w1 ac1 ht har=>hQ ι1 w1 ac1 ht ?_
    have e:a1=toAct t sz a1.defers:=by
     have:=xRangeG_act hrun
     obtain ⟨x,y⟩:=a1
     simp only at this
     subst this
     rfl
    rw [←e]
    exact har
   ·cases h
  |_=>cases h
theorem fast_ok {N:Nat} {f:FuncId} {args:List Value} {s s':AS} {v:Value} (h:fCall E (fCode E N) f args s=some (v,s')) {ι:Emb} {w:World} {args':List Value} (hr:Rep E.P E.C.G ι s.mem w) (ha:VRl ι args args'):
  Calls E.P f args'.toArray w fun e w'=> ∃ι' v',e= .returned v'∧Tr E.P E.C.G ι s.mem w ι' s'.mem w'∧VR ι' v v':=(fCall_ok hE (fCode_ok hE N) _ _ _ _ _ h).2 _ _ _ hr ha
end
end
end Go.Proofs.YtdcioacjhpnihaaGreatDoor
namespace Go.Proofs.YtdcioacjhpnihaaGreatDoor
open Go
noncomputable section
inductive Pa where
 |h
 |l (p:Pa)
 |r (p:Pa)
def tV {α:Type}:T α→Option α:=T.rec (motive:=fun _=>Option α) none (fun _ v _ _ _=>v)
def tL {α:Type}:T α→T α:=T.rec (motive:=fun _=>T α) .leaf (fun l _ _ _ _=>l)
def tR {α:Type}:T α→T α:=T.rec (motive:=fun _=>T α) .leaf (fun _ _ r _ _=>r)
def pget {α:Type}:Pa→T α→Option α:=Pa.rec (motive:=fun _=>T α→Option α) tV (fun _ ih t=>ih (tL t)) (fun _ ih t=>ih (tR t))
def putH {α:Type} (v:Option α):T α→T α:=T.rec (motive:=fun _=>T α) (.node .leaf v .leaf) (fun l _ r _ _=> .node l v r)
def putL {α:Type} (f:T α→T α):T α→T α:=T.rec (motive:=fun _=>T α) (.node (f .leaf) none .leaf) (fun l v r _ _=> .node (f l) v r)
def putR {α:Type} (f:T α→T α):T α→T α:=T.rec (motive:=fun _=>T α) (.node .leaf none (f .leaf)) (fun l v r _ _=> .node l v (f r))
def pput {α:Type}:Pa→Option α→T α→T α:=Pa.rec (motive:=fun _=>Option α→T α→T α) putH (fun _ ih v=>putL (ih v)) (fun _ ih v=>putR (ih v))
def pathN:Nat→Nat→Pa
 |0,_=> .h
 |n+1,k=>if k=0 then .h else if k%2=1 then .l (pathN n (k/2)) else .r (pathN n (k/2-1))
def pathOf (k:Nat):Pa:=pathN 100000 k
inductive PV where
 |no
 |at_ (k o:Nat)
inductive IV where
 |no
 |nat (k:IntKind) (n:Nat)
inductive SV where
 |no
 |at_ (k o n:Nat)
def xPtr:Value→PV:=
 Value.rec (motive_1:=fun _=>PV) (motive_2:=fun _=>PUnit) (motive_3:=fun _=>PUnit) (fun _=> .no) (fun _ _=> .no) (fun _ _=> .no) (fun _ _ _=> .no) (fun _=> .no)
  (fun a=>Option.rec (motive:=fun _=>PV) .no (fun a=>Addr.rec (motive:=fun _=>PV) (fun k o sp=>Option.rec (motive:=fun _=>PV) (.at_ k o) (fun _=> .no) sp) a) a)
  (fun _ _ _=> .no) (fun _=> .no) (fun _=> .no) (fun _ _ _ _ _=> .no) .no (fun _ _ _=> .no) .no (fun _ _=> .no) (fun _ _=> .no) (fun _ _=>⟨⟩) ⟨⟩ (fun _ _ _ _=>⟨⟩)
theorem xPtr_ok {v:Value} {k o:Nat} (h:xPtr v= .at_ k o):v= .pointer (some ⟨k,o,none⟩):=by
 cases v with
 |pointer a=>
  cases a with
  |none=>cases h
  |some a=>
   obtain ⟨b,o',sp⟩:=a
   cases sp with
   |none=>cases h;rfl
   |some _=>cases h
 |_=>cases h
def xInt:Value→IV:=
 Value.rec (motive_1:=fun _=>IV) (motive_2:=fun _=>PUnit) (motive_3:=fun _=>PUnit) (fun _=> .no) (fun k n=>Int.rec (motive:=fun _=>IV) (fun n=> .nat k n) (fun _=> .no) n) (fun _ _=> .no) (fun _ _ _=> .no) (fun _=> .no)
  (fun _=> .no) (fun _ _ _=> .no) (fun _=> .no) (fun _=> .no) (fun _ _ _ _ _=> .no) .no (fun _ _ _=> .no) .no (fun _ _=> .no) (fun _ _=> .no) (fun _ _=>⟨⟩) ⟨⟩ (fun _ _ _ _=>⟨⟩)
theorem xInt_ok {v:Value} {k:IntKind} {n:Nat} (h:xInt v= .nat k n):v= .int k (Int.ofNat n):=by
 cases v with
 |int k' m=>cases m<;>cases h;rfl
 |_=>cases h
def xSl:Value→SV:=
 Value.rec (motive_1:=fun _=>SV) (motive_2:=fun _=>PUnit) (motive_3:=fun _=>PUnit) (fun _=> .no) (fun _ _=> .no) (fun _ _=> .no) (fun _ _ _=> .no) (fun _=> .no)
  (fun _=> .no) (fun a n _=>Option.rec (motive:=fun _=>SV) .no (fun a=>Addr.rec (motive:=fun _=>SV) (fun k o _=> .at_ k o n) a) a) (fun _=> .no) (fun _=> .no) (fun _ _ _ _ _=> .no) .no (fun _ _ _=> .no) .no (fun _ _=> .no) (fun _ _=> .no) (fun _ _=>⟨⟩) ⟨⟩ (fun _ _ _ _=>⟨⟩)
theorem xSl_ok {v:Value} {k o n:Nat} (h:xSl v= .at_ k o n): ∃sp c,v= .slice (some ⟨k,o,sp⟩) n c:=by
 cases v with
 |slice a m c=>
  cases a with
  |none=>cases h
  |some a=>
   obtain ⟨b,o',sp⟩:=a
   cases h
   exact ⟨sp,c,rfl⟩
 |_=>cases h
def xBool:Value→Option Bool:=
 Value.rec (motive_1:=fun _=>Option Bool) (motive_2:=fun _=>PUnit) (motive_3:=fun _=>PUnit) (fun b=>some b) (fun _ _=>none) (fun _ _=>none) (fun _ _ _=>none) (fun _=>none)
  (fun _=>none) (fun _ _ _=>none) (fun _=>none) (fun _=>none) (fun _ _ _ _ _=>none) none (fun _ _ _=>none) none (fun _ _=>none) (fun _ _=>none) (fun _ _=>⟨⟩) ⟨⟩ (fun _ _ _ _=>⟨⟩)
theorem xBool_ok {v:Value} {b:Bool} (h:xBool v=some b):v= .bool b:=by cases v<;>cases h;rfl
def arrL {α:Type}:Array α→List α:=Array.rec (motive:=fun _=>List α) (fun l=>l)
theorem arrL_eq {α:Type} (c:Array α):arrL c=c.toList:=by cases c;rfl
def xStr:Value→Option (List UInt8):=
 Value.rec (motive_1:=fun _=>Option (List UInt8)) (motive_2:=fun _=>PUnit) (motive_3:=fun _=>PUnit) (fun _=>none) (fun _ _=>none) (fun _ _=>none) (fun _ _ _=>none) (fun s=>some (ByteArray.rec (motive:=fun _=>List UInt8) (fun d=>arrL d) s))
  (fun _=>none) (fun _ _ _=>none) (fun _=>none) (fun _=>none) (fun _ _ _ _ _=>none) none (fun _ _ _=>none) none (fun _ _=>none) (fun _ _=>none) (fun _ _=>⟨⟩) ⟨⟩ (fun _ _ _ _=>⟨⟩)
theorem xStr_ok {v:Value} {l:List UInt8} (h:xStr v=some l): ∃s,v= .string s∧l=s.data.toList:=by
 cases v with
 |string s=>cases h;exact ⟨s,rfl,by cases s;exact arrL_eq _⟩
 |_=>cases h
def xAgg:Value→Option (List Value):=
 Value.rec (motive_1:=fun _=>Option (List Value)) (motive_2:=fun _=>PUnit) (motive_3:=fun _=>PUnit) (fun _=>none) (fun _ _=>none) (fun _ _=>none) (fun _ _ _=>none) (fun _=>none)
  (fun _=>none) (fun _ _ _=>none) (fun _=>none) (fun _=>none) (fun _ _ _ _ _=>none) none (fun _ _ _=>none) none (fun c _=>some (arrL c)) (fun _ _=>none) (fun _ _=>⟨⟩) ⟨⟩ (fun _ _ _ _=>⟨⟩)
theorem xAgg_ok {v:Value} {l:List Value} (h:xAgg v=some l): ∃c,v= .agg c∧l=c.toList:=by
 cases v with
 |agg c=>cases h;exact ⟨c,rfl,arrL_eq c⟩
 |_=>cases h
def xTup:Value→Option (List Value):=
 Value.rec (motive_1:=fun _=>Option (List Value)) (motive_2:=fun _=>PUnit) (motive_3:=fun _=>PUnit) (fun _=>none) (fun _ _=>none) (fun _ _=>none) (fun _ _ _=>none) (fun _=>none)
  (fun _=>none) (fun _ _ _=>none) (fun _=>none) (fun _=>none) (fun _ _ _ _ _=>none) none (fun _ _ _=>none) none (fun _ _=>none) (fun c _=>some (arrL c)) (fun _ _=>⟨⟩) ⟨⟩ (fun _ _ _ _=>⟨⟩)
theorem xTup_ok {v:Value} {l:List Value} (h:xTup v=some l): ∃c,v= .tuple c∧l=c.toList:=by
 cases v with
 |tuple c=>cases h;exact ⟨c,rfl,arrL_eq c⟩
 |_=>cases h
def xOne:Value→Option Value:=fun v=>
 Value.rec (motive_1:=fun _=>Option Value) (motive_2:=fun _=>PUnit) (motive_3:=fun _=>PUnit) (fun _=>some v) (fun _ _=>some v) (fun _ _=>some v) (fun _ _ _=>none) (fun _=>some v)
  (fun _=>some v) (fun _ _ _=>some v) (fun _=>some v) (fun _=>none) (fun _ _ _ _ _=>some v) (some v) (fun _ _ _=>some v) (some v) (fun _ _=>none) (fun _ _=>none) (fun _ _=>⟨⟩) ⟨⟩ (fun _ _ _ _=>⟨⟩) v
theorem xOne_ok {v u:Value} (h:xOne v=some u):u=v∧v.cells= #[v] ∧v.oneCell'=true:=by
 cases v<;>cases h<;>exact ⟨rfl,rfl,rfl⟩
def xCells:Obj→Option (List Value × TypeId):=
 Obj.rec (motive:=fun _=>Option (List Value × TypeId)) (fun c e _=>some (arrL c,e)) (fun _ _=>none) (fun _ _=>none) (fun _ _=>none) (fun _ _=>none) (fun _ _ _ _ _ _=>none) (fun _ _=>none) (fun _ _ _ _=>none) (fun _=>none) (fun _=>none) (fun _=>none) (fun _ _=>none)
theorem xCells_ok {o:Obj} {l:List Value} {e:TypeId} (h:xCells o=some (l,e)): ∃c fr,o= .cells c e fr∧l=c.toList:=by
 cases o with
 |cells c e' fr=>cases h;exact ⟨c,fr,rfl,arrL_eq c⟩
 |_=>cases h
def lget {α:Type} (l:List α):Nat→Option α:=List.rec (motive:=fun _=>Nat→Option α) (fun _=>none) (fun x _ ih n=>Nat.rec (motive:=fun _=>Option α) (some x) (fun m _=>ih m) n) l
theorem lget_eq {α:Type}: ∀ (l:List α) (n:Nat),lget l n=l[n]?
 | [],n=>by cases n<;>rfl
 |x::l,0=>rfl
 |x::l,n+1=>lget_eq l n
def lset {α:Type} (x:α) (l:List α):Nat→Option (List α):=List.rec (motive:=fun _=>Nat→Option (List α)) (fun _=>none) (fun y r ih n=>Nat.rec (motive:=fun _=>Option (List α)) (some (x::r)) (fun m _=>Option.rec (motive:=fun _=>Option (List α)) none (fun q=>some (y::q)) (ih m)) n) l
theorem lset_eq {α:Type} (x:α): ∀ (l:List α) (n:Nat) {r:List α},lset x l n=some r→n<l.length∧r=l.take n++ [x] ++l.drop (n+1)
 | [],n,r,h=>by cases h
 |y::l,0,r,h=>by cases h;exact ⟨by simp,by simp⟩
 |y::l,n+1,r,h=>by
  have h': (Option.rec (motive:=fun _=>Option (List α)) none (fun q=>some (y::q)) (lset x l n):Option (List α))=some r:=h
  cases hq:lset x l n with
  |none=>rw [hq] at h';cases h'
  |some q=>
   rw [hq] at h'
   cases h'
   obtain ⟨h1,h2⟩:=lset_eq x l n hq
   exact ⟨by simpa using h1,by simp [h2]⟩
def ltake0 {α:Type} (l:List α):Nat→Option (List α):=List.rec (motive:=fun _=>Nat→Option (List α)) (fun n=>Nat.rec (motive:=fun _=>Option (List α)) (some []) (fun _ _=>none) n)
 (fun y _ ih n=>Nat.rec (motive:=fun _=>Option (List α)) (some []) (fun m _=>Option.rec (motive:=fun _=>Option (List α)) none (fun q=>some (y::q)) (ih m)) n) l
theorem ltake0_eq {α:Type}: ∀ (l:List α) (n:Nat) {r:List α},ltake0 l n=some r→n≤l.length∧r=l.take n
 | [],0,r,h=>by cases h;exact ⟨by simp,by simp⟩
 | [],n+1,r,h=>by cases h
 |y::l,0,r,h=>by cases h;exact ⟨by simp,by simp⟩
 |y::l,n+1,r,h=>by
  have h': (Option.rec (motive:=fun _=>Option (List α)) none (fun q=>some (y::q)) (ltake0 l n):Option (List α))=some r:=h
  cases hq:ltake0 l n with
  |none=>rw [hq] at h';cases h'
  |some q=>
   rw [hq] at h'
   cases h'
   obtain ⟨h1,h2⟩:=ltake0_eq l n hq
   exact ⟨by simpa using h1,by simp [h2]⟩
def ldrop {α:Type} (l:List α):Nat→Option (List α):=List.rec (motive:=fun _=>Nat→Option (List α)) (fun n=>Nat.rec (motive:=fun _=>Option (List α)) (some []) (fun _ _=>none) n)
 (fun y r ih n=>Nat.rec (motive:=fun _=>Option (List α)) (some (y::r)) (fun m _=>ih m) n) l
theorem ldrop_eq {α:Type}: ∀ (l:List α) (n:Nat) {r:List α},ldrop l n=some r→n≤l.length∧r=l.drop n
 | [],0,r,h=>by cases h;exact ⟨by simp,by simp⟩
 | [],n+1,r,h=>by cases h
 |y::l,0,r,h=>by cases h;exact ⟨by simp,by simp⟩
 |y::l,n+1,r,h=>by
  obtain ⟨h1,h2⟩:=ldrop_eq l n (show ldrop l n=some r from h)
  exact ⟨by simpa using h1,by simp [h2]⟩
def llen {α:Type}:List α→Nat:=List.rec (motive:=fun _=>Nat) 0 (fun _ _ ih=>Nat.succ ih)
theorem llen_eq {α:Type}: ∀ (l:List α),llen l=l.length
 | [] =>rfl
 |_::l=>congrArg Nat.succ (llen_eq l)
def ltake {α:Type} (l:List α) (n:Nat):Option (List α):=Bool.rec (motive:=fun _=>Option (List α)) (ltake0 l n) (some l) (Nat.beq (llen l) n)
theorem ltake_eq {α:Type} (l:List α) (n:Nat) {r:List α} (h:ltake l n=some r):n≤l.length∧r=l.take n:=by
 unfold ltake at h
 cases hb:Nat.beq (llen l) n with
 |false=>rw [hb] at h;exact ltake0_eq l n h
 |true=>
  rw [hb] at h
  cases h
  have:=Nat.eq_of_beq_eq_true hb
  rw [llen_eq] at this
  exact ⟨by omega,by rw [←this,List.take_length]⟩
end
end Go.Proofs.YtdcioacjhpnihaaGreatDoor
