/- One operation that is no call of a function, on abstract values: what it yields, and the memory behind it. A region that draws its order: if it goes well in one order, and what is read stays as it is read, it goes so in each. The law of a region that draws its order. Running a region that draws its order: one order is run, and what the law wants is looked at on the way. Running a region that draws its order: the run, and that it gives what the law wants. The run of a region gives what the law wants. A region that draws its order is run rightly. A region that draws its order is run rightly: the law joined. Regions: drawn ones and those in the text's order. Running code: calls, rounds of a range over a function, deferred calls. Running code is right: results, deferred calls, activations. Running code is right: the whole. Running code is right: rounds, ranges over functions, calls; the induction. Running code is right. -/
import Derived.Test.YtdcioacjhpnihaaGreatDoorQ1
import Derived.Test.YtdcioacjhpnihaaGreatDoorQ2
import Derived.RangeFuncLeaves
import Derived.RangeFuncNested
import Derived.RangeFuncCalls
import Derived.RangeFuncRecord
set_option linter.all false
namespace Go.Proofs.YtdcioacjhpnihaaGreatDoor
open Go
noncomputable section
def aevs (C:Cfg) (a:Act):List Operand→Option (List Value)
 | [] =>some []
 |x::l=>match aev C a x,aevs C a l with
  |some v,some r=>some (v::r)
  |_,_=>none
def aparts (C:Cfg) (a:Act):List (Nat × Operand)→Option (List (Nat × Value))
 | [] =>some []
 |x::l=>match aev C a x.2,aparts C a l with
  |some v,some r=>some ((x.1,v)::r)
  |_,_=>none
def aopt (C:Cfg) (a:Act):Option Operand→Option (Option Value)
 |none=>some none
 |some x=>match aev C a x with
  |some v=>some (some v)
  |none=>none
section
variable {C:Cfg} {ι:Emb} {a ac:Act}
theorem aevs_ok: ∀ (l:List Operand) (vs:List Value),(∀x∈l, ∀v,aev C a x=some v→VR ι v (ac.eval x))→aevs C a l=some vs→VRl ι vs (l.map ac.eval)
 | [],vs,_,h=>by cases h;exact VRl.nil
 |x::l,vs,ho,h=>by
  unfold aevs at h
  split at h
  ·rename_i v r hv hr
   cases h
   exact VRl.cons (ho x (by simp) v hv) (aevs_ok l r (fun y hy=>ho y (by simp [hy])) hr)
  ·cases h
theorem aparts_ok: ∀ (l:List (Nat × Operand)) (vs:List (Nat × Value)),(∀x∈l, ∀v,aev C a x.2=some v→VR ι v (ac.eval x.2))→aparts C a l=some vs→partsR ι vs (l.map fun x=>(x.1,ac.eval x.2))
 | [],vs,_,h=>by cases h;trivial
 |x::l,vs,ho,h=>by
  unfold aparts at h
  split at h
  ·rename_i v r hv hr
   cases h
   exact ⟨rfl,ho x (by simp) v hv,aparts_ok l r (fun y hy=>ho y (by simp [hy])) hr⟩
  ·cases h
theorem aopt_ok {x:Option Operand} {v:Option Value} (ho: ∀y,x=some y→ ∀v,aev C a y=some v→VR ι v (ac.eval y)) (h:aopt C a x=some v):optVR ι v (x.map ac.eval):=by
 cases x with
 |none=>cases h;trivial
 |some y=>
  simp only [aopt] at h
  split at h
  ·rename_i u hu
   cases h
   exact ho y rfl u hu
  ·cases h
end
def a1 (C:Cfg) (a:Act) (x:Operand) (f:Value→Option Value) (s:AS):Option (Value × AS):=match aev C a x with
 |some v=>match f v with
  |some r=>some (r,s)
  |none=>none
 |none=>none
def a2 (C:Cfg) (a:Act) (x y:Operand) (f:Value→Value→Option Value) (s:AS):Option (Value × AS):=match aev C a x,aev C a y with
 |some u,some v=>match f u v with
  |some r=>some (r,s)
  |none=>none
 |_,_=>none
def orFlat (r:Option (Value × AS)) (C:Cfg) (P:Program) (s:AS) (a:Act) (o:Oper):Option (Value × AS):=match r with
 |some x=>some x
 |none=>match aflat C P a o with
  |some v=>some (v,s)
  |none=>none
def abuiltin (C:Cfg) (P:Program) (s:AS) (b:Builtin) (ts:List TypeId) (vs:List Value):Option (Value × AS):=match b,ts,vs with
 | .append, [t,tx], [x,y] =>aappend C s t tx x y
 | .copy, [t,_], [x,y] =>acopy C s t x y
 | .len, [t], [x] =>match alen C t x with
  |some v=>some (v,s)
  |none=>match mlen C t s x with
   |some v=>some (v,s)
   |none=>match alenM C t x with
    |some v=>some (v,s)
    |none=>none
 | .clear, [t], [x] =>match mclear C t s x with
  |some s'=>some (undef,s')
  |none=>none
 | .unsafeSliceData, [_], [x] =>match asliceD x with
  |some v=>some (v,s)
  |none=>none
 | .unsafeString, [t,_], [p,n] =>ausString C P t s p n
 |_,_,_=>none
def mop (C:Cfg) (P:Program) (s:AS) (op:Op) (vs:List Value):Option (Value × AS):=match op,vs with
 | .makeMap _ none, [] =>amkmap s
 | .lookup t _ _ ok, [m,k] =>match mlookup C P t ok s m k with
  |some v=>some (v,s)
  |none=>none
 | .mapUpdate t _ _ _, [m,k,v] =>match mupdate C P t s m k v with
  |some s'=>some (undef,s')
  |none=>none
 | .mapEntry t _ _, [m,k] =>aentry C P t s m k
 | .entryStore _ _ _ _, [m,st,v] =>match aestore s m st v with
  |some s'=>some (undef,s')
  |none=>none
 | .range t _, [m] =>arange C t s m
 | .next _ false, [it] =>anext s it
 | .entry _, [it] =>match aentryN s it with
  |some v=>some (v,s)
  |none=>none
 |_,_=>none
def ifaceD:TypeDesc→Bool
 | .interface _=>true
 |_=>false
def aiface (C:Cfg) (t:TypeId) (v:Value):Option Value:=match C.und t with
 |some d=>if ifaceD d then none else some (.iface t v)
 |none=>none
theorem aiface_ok {C:Cfg} {P:Program} (hC:C.ok P) {ι:Emb} {t:TypeId} {u v u':Value} (h:aiface C t u=some v) (hu:VR ι u u') (w:World): ∃v',(Instr.makeInterface t u').run P w= .ok v' w∧VR ι v v':=by
 unfold aiface at h
 split at h
 ·rename_i d hd
  split at h
  ·cases h
  ·rename_i hni
   cases h
   refine ⟨_,?_, .iface t hu⟩
   unfold Instr.makeInterface
   simp only [Sem.run_bind,Cfg.run_und hC hd]
   cases d<;>first |rfl |exact absurd rfl hni
 ·cases h
def aop (C:Cfg) (P:Program) (s:AS) (a:Act) (o:Oper):Option (Value × AS):=
 match o.op with
 | .move x | .assign x=>a1 C a x some s
 | .pick c x y=>match aev C a c with
  |some (.bool b)=>a1 C a (if b then x else y) some s
  |_=>none
 | .alloc t=>aalloc C s t
 | .box t x=>match aev C a x with
  |some v=>abox s t v
  |none=>none
 | .build t ps=>match aparts C a ps.toList with
  |some l=>match abuild C P t l with
   |some v=>some (v,s)
   |none=>none
  |none=>none
 | .buildSlice t n ps=>match aparts C a ps.toList with
  |some l=>abuildS C s t n l
  |none=>none
 | .load t x=>a1 C a x (aload C s t) s
 | .store t x y=>match aev C a x,aev C a y with
  |some p,some v=>match astore C s t p v with
   |some s'=>some (undef,s')
   |none=>none
  |_,_=>none
 | .nilCheck x=>a1 C a x (fun v=>if anilCheck v then some v else none) s
 | .binOp op t x y _=>orFlat (a2 C a x y (fbin2 C t op) s) C P s a o
 | .unOp .. =>orFlat none C P s a o
 | .convert t u x=>match aev C a x with
  |some v=>if scalT u then orFlat (match abytes2 C s t u v with |some r=>some (r,s)|none=>none) C P s a o else match astring2 C s t u v with
   |some r=>some r
   |none=>match aunsafe C P s t u v with
    |some r=>some (r,s)
    |none=>orFlat none C P s a o
  |none=>none
 | .sliceToArrayPointer t x=>a1 C a x (aarrP C t) s
 | .makeInterface t x=>a1 C a x (aiface C t) s
 | .makeFunc (.func f) fs xs=>match aevs C a fs.toList,aevs C a xs.toList with
  |some b,some l=>some (.func (.func f) b.toArray l.toArray,s)
  |_,_=>none
 | .makeSlice t l c=>match aev C a l,aev C a c with
  |some u,some v=>amake C s t u v
  |_,_=>none
 | .slice t x l h m=>match aev C a x,aopt C a l,aopt C a h,aopt C a m with
  |some v,some l',some h',some m'=>orFlat (match aslice2 C t v l' h' m' with |some r=>some (r,s)|none=>none) C P s a o
  |_,_,_,_=>none
 | .fieldAddr t x f=>a1 C a x (fun v=>afieldA C t v f) s
 | .field t x f=>a1 C a x (fun v=>afield C t v f) s
 | .indexAddr t x i=>a2 C a x i (aindexA C t) s
 | .index t x i=>orFlat (a2 C a x i (aindex2 C t) s) C P s a o
 | .extract x i=>a1 C a x (fun v=>match v with | .tuple vs=>vs[i]? |_=>none) s
 | .call c=>match c.callee with
  | .builtin b=>match aevs C a c.args.toList with
   |some vs=>orFlat (abuiltin C P s b c.argTypes.toList vs) C P s a o
   |none=>none
  |_=>none
 |op=>match aevs C a op.operands.toList with
  |some vs=>mop C P s op vs
  |none=>none
set_option maxHeartbeats 2000000 in
theorem anil_shape {C:Cfg} {ι:Emb} {t:TypeId} {x y x' y':Value} {b:Bool} (h:anil C t x y=some b) (hx:VR ι x x') (hy:VR ι y y'):
  (∀u v,eqGuard .eql t u v x' y'=pure ()∧eqGuard .neq t u v x' y'=pure ())∧binOp .eql t x' y'=(do pure (.bool (←Op.equal t x' y')))∧binOp .neq t x' y'=(do pure (.bool (!(←Op.equal t x' y')))):=by
 unfold anil at h
 split at h<;>first
  | (cases h;done)
  | (cases hy<;>cases hx<;>exact ⟨fun _ _=>⟨rfl,rfl⟩,rfl,rfl⟩)
def OpOK (P:Program) (G:Nat) (ι:Emb) (m:Mem) (w:World) (r:Sem Next) (v:Value) (m':Mem):Prop:=
 ∃ι' w' nx v',r.run P w= .ok nx w'∧(nx= .value v'∨(nx= .skip∧v'=undef))∧Tr P G ι m w ι' m' w'∧VR ι' v v'
section
variable {C:Cfg} {P:Program} (hC:C.ok P) {ι:Emb} {s s':AS} {w:World} {a ac:Act} {o:Oper} {v:Value}
theorem OpOK.val {G:Nat} {m m':Mem} {r:Sem Value} {ι':Emb} {w':World} {v':Value} (h:r.run P w= .ok v' w') (ht:Tr P G ι m w ι' m' w') (hv:VR ι' v v'):OpOK P G ι m w (do pure (.value (←r))) v m':=
 ⟨ι',w', .value v',v',by simp [h], .inl rfl,ht,hv⟩
theorem a1_ok {x:Operand} {f:Value→Option Value} (ho: ∀y∈ [x], ∀u,aev C a y=some u→VR ι u (ac.eval y)) (h:a1 C a x f s=some (v,s')):s'=s∧ ∃u,VR ι u (ac.eval x)∧f u=some v:=by
 unfold a1 at h
 split at h
 ·rename_i u hu
  split at h
  ·rename_i r hr
   cases h
   exact ⟨rfl,u,ho x (by simp) u hu,hr⟩
  ·cases h
 ·cases h
theorem a2_ok {x y:Operand} {f:Value→Value→Option Value} (ho: ∀z∈ [x,y], ∀u,aev C a z=some u→VR ι u (ac.eval z)) (h:a2 C a x y f s=some (v,s')):s'=s∧ ∃u t,VR ι u (ac.eval x)∧VR ι t (ac.eval y)∧f u t=some v:=by
 unfold a2 at h
 split at h
 ·rename_i u t hu ht
  split at h
  ·rename_i r hr
   cases h
   exact ⟨rfl,u,t,ho x (by simp) u hu,ho y (by simp) t ht,hr⟩
  ·cases h
 ·cases h
theorem orFlat_ok {r:Option (Value × AS)} (hs: ∀cs b,o.op≠ .select cs b) (hr:Rep P C.G ι s.mem w) (ho: ∀x∈o.op.operands, ∀v,aev C a x=some v→VR ι v (ac.eval x))
  (h1: ∀v s',r=some (v,s')→OpOK P C.G ι s.mem w (execOp ac.eval o) v s'.mem) (h:orFlat r C P s a o=some (v,s')):OpOK P C.G ι s.mem w (execOp ac.eval o) v s'.mem:=by
 unfold orFlat at h
 split at h
 ·cases h
  exact h1 v s' rfl
 ·split at h
  ·rename_i u hu
   cases h
   obtain ⟨h2,h3⟩:=aflat_ok hs hu ho w
   exact ⟨ι,w, .value v,v,h2, .inl rfl,Tr.refl hr,VR.flat ι h3⟩
  ·cases h
include hC in
theorem mop_ok (hr:Rep P C.G ι s.mem w) {op:Op} {vs:List Value} (h:mop C P s op vs=some (v,s')) (g: ∀ (i:Nat) (x:Operand) (v:Value),op.operands.toList[i]? =some x→vs[i]? =some v→VR ι v (ac.eval x)) (o:Oper) (ho:o.op=op):OpOK P C.G ι s.mem w (execOp ac.eval o) v s'.mem:=by
 obtain ⟨dst,op',ty,pos,aft,gd⟩:=o
 simp only at ho
 subst ho
 unfold mop at h
 split at h
 ·obtain ⟨ι',w',v',h1,h2,h3⟩:=amkmap_ok hr h
  exact OpOK.val h1 h2 h3
 ·split at h
  ·rename_i u hu
   cases h
   obtain ⟨v',h1,h2⟩:=mlookup_ok hC hr hu (g 0 _ _ rfl rfl) (g 1 _ _ rfl rfl)
   exact OpOK.val h1 (Tr.refl hr) h2
  ·cases h
 ·split at h
  ·rename_i s2 hs2
   cases h
   obtain ⟨w',h1,h2⟩:=mupdate_ok hC hr hs2 (g 0 _ _ rfl rfl) (g 1 _ _ rfl rfl) (g 2 _ _ rfl rfl)
   exact ⟨ι,w', .skip,undef,by simp [execOp,h1], .inr ⟨rfl,rfl⟩,h2, .tuple rfl (fun i hi=>absurd hi (Nat.not_lt_zero _))⟩
  ·cases h
 ·obtain ⟨w',v',h1,h2,h3⟩:=aentry_ok hC hr h (g 0 _ _ rfl rfl) (g 1 _ _ rfl rfl)
  exact OpOK.val h1 h2 h3
 ·rename_i t _ _ _ _ _ _
  split at h
  ·rename_i s2 hs2
   cases h
   obtain ⟨w',h1,h2⟩:=aestore_ok (t:=t) hr hs2 (g 0 _ _ rfl rfl) (g 1 _ _ rfl rfl) (g 2 _ _ rfl rfl)
   exact ⟨ι,w', .skip,undef,by simp [execOp,h1], .inr ⟨rfl,rfl⟩,h2, .tuple rfl (fun i hi=>absurd hi (Nat.not_lt_zero _))⟩
  ·cases h
 ·obtain ⟨ι',w',v',h1,h2,h3⟩:=arange_ok hC hr h (g 0 _ _ rfl rfl)
  exact OpOK.val h1 h2 h3
 ·obtain ⟨w',v',h1,h2,h3⟩:=anext_ok (t:=ty) hr h (g 0 _ _ rfl rfl)
  exact OpOK.val h1 h2 h3
 ·split at h
  ·rename_i u hu
   cases h
   obtain ⟨v',h1,h2⟩:=aentryN_ok hr hu (g 0 _ _ rfl rfl)
   exact OpOK.val h1 (Tr.refl hr) h2
  ·cases h
 ·cases h
include hC in
set_option maxHeartbeats 4000000 in
theorem aop_ok (hr:Rep P C.G ι s.mem w) (ho: ∀x∈o.op.operands, ∀v,aev C a x=some v→VR ι v (ac.eval x)) (h:aop C P s a o=some (v,s')):OpOK P C.G ι s.mem w (execOp ac.eval o) v s'.mem:=by
 obtain ⟨dst,op,ty,pos,aft,gd⟩:=o
 unfold aop at h
 simp only at h ho
 split at h
 ·obtain ⟨rfl,u,hu,e⟩:=a1_ok (by simpa [Op.operands] using ho) h
  cases e
  exact ⟨ι,w,_,_,rfl, .inl rfl,Tr.refl hr,hu⟩
 ·obtain ⟨rfl,u,hu,e⟩:=a1_ok (by simpa [Op.operands] using ho) h
  cases e
  exact ⟨ι,w,_,_,rfl, .inl rfl,Tr.refl hr,hu⟩
 ·rename_i c x y
  split at h
  ·rename_i b hb
   have hc:=ho c (by simp [Op.operands]) _ hb
   obtain ⟨rfl,u,hu,e⟩:=a1_ok (x:=if b then x else y) (fun z hz=>ho z (by cases b<;>simp_all [Op.operands])) h
   cases e
   refine ⟨ι,w, .value (ac.eval (if b then x else y)),_,?_, .inl rfl,Tr.refl hr,hu⟩
   have:ac.eval c= .bool b:=by generalize ac.eval c=q at hc;cases hc;rfl
   cases b<;>simp [execOp,this,asBool]
  ·cases h
 ·obtain ⟨ι',w',u',h1,h2,h3⟩:=aalloc_ok hC hr h
  exact OpOK.val h1 h2 h3
 ·rename_i t x
  split at h
  ·rename_i u hu
   obtain ⟨ι',w',u',h1,h2,h3⟩:=abox_ok hr h (ho x (by simp [Op.operands]) u hu)
   exact OpOK.val h1 h2 h3
  ·cases h
 ·rename_i t ps
  split at h
  ·rename_i l hl
   split at h
   ·rename_i u hu
    cases h
    have hp:=aparts_ok (ac:=ac) (ι:=ι) ps.toList l (fun x hx=>ho x.2 (by simp only [Op.operands,List.mem_toArray,List.mem_map];exact ⟨x,hx,rfl⟩)) hl
    obtain ⟨v',h1,h2⟩:=abuild_ok hC hu (parts':=ps.map fun x=>(x.1,ac.eval x.2)) (by simpa using hp) w
    exact OpOK.val h1 (Tr.refl hr) h2
   ·cases h
  ·cases h
 ·rename_i t n ps
  split at h
  ·rename_i l hl
   have hp:=aparts_ok (ac:=ac) (ι:=ι) ps.toList l (fun x hx=>ho x.2 (by simp only [Op.operands,List.mem_toArray,List.mem_map];exact ⟨x,hx,rfl⟩)) hl
   obtain ⟨ι',w',v',h1,h2,h3⟩:=abuildS_ok hC hr h (parts':=ps.map fun x=>(x.1,ac.eval x.2)) (by simpa using hp)
   exact OpOK.val h1 h2 h3
  ·cases h
 ·obtain ⟨rfl,u,hu,e⟩:=a1_ok (by simpa [Op.operands] using ho) h
  obtain ⟨v',h1,h2⟩:=aload_ok hC hr e hu
  exact OpOK.val h1 (Tr.refl hr) h2
 ·rename_i t x y
  split at h
  ·rename_i p q hp hq
   split at h
   ·rename_i s2 hs
    cases h
    obtain ⟨w',h1,h2⟩:=astore_ok hC hr hs (ho x (by simp [Op.operands]) p hp) (ho y (by simp [Op.operands]) q hq)
    exact ⟨ι,w', .skip,undef,by simp [execOp,h1], .inr ⟨rfl,rfl⟩,h2, .tuple rfl (fun i hi=>absurd hi (Nat.not_lt_zero _))⟩
   ·cases h
  ·cases h
 ·rename_i x
  obtain ⟨rfl,u,hu,e⟩:=a1_ok (x:=x) (by simpa [Op.operands] using ho) h
  split at e
  ·rename_i hn
   cases e
   refine ⟨ι,w, .value (ac.eval x),_,?_, .inl rfl,Tr.refl hr,hu⟩
   simp only [execOp]
   generalize ac.eval x=q at hu
   cases hu<;>first |rfl |cases hn
  ·cases e
 ·rename_i op t x y yt
  refine orFlat_ok (by simp) hr ho (fun v s' e=> ?_) h
  obtain ⟨rfl,u,q,hu,hq,e⟩:=a2_ok (by simpa [Op.operands] using ho) e
  unfold fbin2 at e
  split at e
  ·rename_i r hs
   cases e
   obtain ⟨v',h1,h2⟩:=fsym_ok (P:=P) hs hu hq t x y w
   exact OpOK.val h1 (Tr.refl hr) h2
  ·split at e
   ·obtain ⟨b,hb,rfl⟩:=boolO_ok e
    have h1: (Op.equal t (ac.eval x) (ac.eval y)).run P w= .ok b w:=anil_ok hC hb hu hq w 9999
    obtain ⟨h2,h3,h4⟩:=anil_shape hb hu hq
    refine OpOK.val (v':= .bool b) (w':=w) ?_ (Tr.refl hr) (.bool b)
    simp [(h2 x y).1,h3,h1]
   ·obtain ⟨b,hb,rfl⟩:=boolO_ok e
    have hb:=notO_ok hb
    have h1: (Op.equal t (ac.eval x) (ac.eval y)).run P w= .ok (!b) w:=anil_ok hC hb hu hq w 9999
    obtain ⟨h2,h3,h4⟩:=anil_shape hb hu hq
    refine OpOK.val (v':= .bool b) (w':=w) ?_ (Tr.refl hr) (.bool b)
    simp [(h2 x y).2,h4,h1]
   ·cases e
 ·exact orFlat_ok (by simp) hr ho (fun v s' e=>by cases e) h
 ·rename_i t u x
  split at h
  ·rename_i q hq
   have hx:=ho x (by simp [Op.operands]) q hq
   split at h
   ·refine orFlat_ok (by simp) hr ho (fun v s' e=> ?_) h
    split at e
    ·rename_i r hb
     cases e
     obtain ⟨v',h1,h2⟩:=abytes2_ok hC hr hb hx
     exact OpOK.val h1 (Tr.refl hr) h2
    ·cases e
   ·split at h
    ·rename_i r hr2
     cases h
     obtain ⟨ι',w',v',h1,h2,h3⟩:=astring2_ok hC hr hr2 hx
     exact OpOK.val h1 h2 h3
    ·split at h
     ·rename_i r hun
      cases h
      obtain ⟨h1,rfl⟩:=aunsafe_ok hC hr hun hx
      exact OpOK.val h1 (Tr.refl hr) hx
     ·exact orFlat_ok (by simp) hr ho (fun v s' e=>by cases e) h
  ·cases h
 ·obtain ⟨rfl,u,hu,e⟩:=a1_ok (by simpa [Op.operands] using ho) h
  obtain ⟨v',h1,h2⟩:=aarrP_ok hC e hu w
  exact OpOK.val h1 (Tr.refl hr) h2
 ·obtain ⟨rfl,u,hu,e⟩:=a1_ok (by simpa [Op.operands] using ho) h
  obtain ⟨v',h1,h2⟩:=aiface_ok hC e hu w
  exact OpOK.val h1 (Tr.refl hr) h2
 ·rename_i f fs xs
  split at h
  ·rename_i b l hb hl
   cases h
   have hv1:=(aevs_ok (ac:=ac) (ι:=ι) fs.toList b (fun x hx=>ho x (by simp only [Op.operands,Array.mem_append];exact .inl (Array.mem_toList_iff.1 hx))) hb).s
   have hv:=(aevs_ok (ac:=ac) (ι:=ι) xs.toList l (fun x hx=>ho x (by simp only [Op.operands,Array.mem_append];exact .inr (Array.mem_toList_iff.1 hx))) hl).s
   refine ⟨ι,w, .value (.func (.func f) (fs.map ac.eval) (xs.map ac.eval)),_,?_, .inl rfl,Tr.refl hr,?_⟩
   ·simp [execOp,Instr.makeFunc]
   ·have e: ∀ys:Array Operand,(ys.toList.map ac.eval).toArray=ys.map ac.eval:=fun ys=>by apply Array.ext';simp
    rw [e] at hv hv1
    exact .func f hv1.1 hv1.2 hv.1 hv.2
  ·cases h
 ·rename_i t l c
  split at h
  ·rename_i p q hp hq
   obtain ⟨ι',w',v',h1,h2,h3⟩:=amake_ok hC hr h (ho l (by simp [Op.operands]) p hp) (ho c (by simp [Op.operands]) q hq)
   exact OpOK.val h1 h2 h3
  ·cases h
 ·rename_i t x l h0 m
  split at h
  ·rename_i q l' h' m' hq hl hh hm
   refine orFlat_ok (by simp) hr ho (fun v s' e=> ?_) h
   split at e
   ·rename_i r hb
    cases e
    obtain ⟨v',h1,h2⟩:=aslice2_ok hC hb (ho x (by simp [Op.operands]) q hq) (aopt_ok (fun y hy=>ho y (by subst hy;simp [Op.operands])) hl) (aopt_ok (fun y hy=>ho y (by subst hy;simp [Op.operands])) hh) (aopt_ok (fun y hy=>ho y (by subst hy;simp [Op.operands])) hm) w
    exact OpOK.val h1 (Tr.refl hr) h2
   ·cases e
  ·cases h
 ·obtain ⟨rfl,u,hu,e⟩:=a1_ok (by simpa [Op.operands] using ho) h
  obtain ⟨v',h1,h2⟩:=afieldA_ok hC e hu w
  exact OpOK.val h1 (Tr.refl hr) h2
 ·obtain ⟨rfl,u,hu,e⟩:=a1_ok (by simpa [Op.operands] using ho) h
  obtain ⟨v',h1,h2⟩:=afield_ok hC e hu w
  exact OpOK.val h1 (Tr.refl hr) h2
 ·obtain ⟨rfl,u,q,hu,hq,e⟩:=a2_ok (by simpa [Op.operands] using ho) h
  obtain ⟨v',h1,h2⟩:=aindexA_ok hC e hu hq w
  exact OpOK.val h1 (Tr.refl hr) h2
 ·refine orFlat_ok (by simp) hr ho (fun v s' e=> ?_) h
  obtain ⟨rfl,u,q,hu,hq,e⟩:=a2_ok (by simpa [Op.operands] using ho) e
  obtain ⟨v',h1,h2⟩:=aindex2_ok hC e hu hq w
  exact OpOK.val h1 (Tr.refl hr) h2
 ·rename_i x i
  obtain ⟨rfl,u,hu,e⟩:=a1_ok (x:=x) (by simpa [Op.operands] using ho) h
  split at e
  ·rename_i vs
   obtain ⟨hi,rfl⟩:=Array.getElem?_eq_some_iff.1 e
   have key: ∀q,VR ι (.tuple vs) q→ ∃v',(Instr.extract q i).run P w= .ok v' w∧VR ι vs[i] v':=fun q hq=>by
    cases hq with
    |tuple h1 h2=>
     rename_i c'
     have hi':i<c'.size:=h1▸hi
     exact ⟨c'[i],by simp [Instr.extract,Array.getElem?_eq_getElem hi'],h2 i hi hi'⟩
   obtain ⟨v',h1,h2⟩:=key _ hu
   exact OpOK.val h1 (Tr.refl hr) h2
  ·cases e
 ·rename_i c
  split at h
  ·rename_i b hcb
   split at h
   ·rename_i vs hvs
    refine orFlat_ok (by simp) hr ho (fun v s' e=> ?_) h
    have hv:=aevs_ok (ac:=ac) (ι:=ι) c.args.toList vs (fun x hx=>ho x (by simp only [Op.operands,Call.operands,hcb];simpa using Array.mem_toList_iff.1 hx)) hvs
    obtain ⟨callee,args,ats⟩:=c
    simp only at hcb hvs hv e
    subst hcb
    have hres: (execOp ac.eval ⟨dst, .call ⟨.builtin b,args,ats⟩,ty,pos,aft,gd⟩)=builtin b ats ty (args.map fun | .const _=>true |_=>false) (args.map ac.eval):=rfl
    rw [hres]
    unfold abuiltin at e
    have two: ∀ (x y:Value) (q:Array Value),VRl ι [x,y] q.toList→ ∃x' y',q= #[x',y'] ∧VR ι x x'∧VR ι y y':=fun x y q hq=>by
     obtain ⟨l⟩:=q
     match l,hq with
     | [x',y'],hq=>exact ⟨x',y',rfl,hq.2 0 _ _ rfl rfl,hq.2 1 _ _ rfl rfl⟩
     | [],hq=>exact absurd hq.1 (by simp)
     | [_],hq=>exact absurd hq.1 (by simp)
     |_::_::_::_,hq=>exact absurd hq.1 (by simp)
    have one: ∀ (x:Value) (q:Array Value),VRl ι [x] q.toList→ ∃x',q= #[x'] ∧VR ι x x':=fun x q hq=>by
     obtain ⟨l⟩:=q
     match l,hq with
     | [x'],hq=>exact ⟨x',rfl,hq.2 0 _ _ rfl rfl⟩
     | [],hq=>exact absurd hq.1 (by simp)
     |_::_::_,hq=>exact absurd hq.1 (by simp)
    have hv':VRl ι vs (args.map ac.eval).toList:=by simpa using hv
    split at e
    ·rename_i t tx x y hts
     obtain ⟨x',y',hq,hx,hy⟩:=two x y _ hv'
     rw [hq]
     have hat:ats= #[t,tx] :=by apply Array.ext';exact hts
     rw [hat]
     obtain ⟨ι',w',u',h1,h2,h3⟩:=aappend_ok hC hr (ty:=ty) e hx hy
     exact OpOK.val h1 h2 h3
    ·rename_i t tx x y hts
     obtain ⟨x',y',hq,hx,hy⟩:=two x y _ hv'
     rw [hq]
     have hat:ats= #[t,tx] :=by apply Array.ext';exact hts
     rw [hat]
     obtain ⟨w',h1,h2,h3⟩:=acopy_ok hC hr (tx:=tx) (ty:=ty) e hx hy
     exact OpOK.val h1 h2 (VR.flat1 ι h3)
    ·rename_i t x hts
     split at e
     ·rename_i u hu
      cases e
      obtain ⟨x',hq,hx⟩:=one x _ hv'
      rw [hq]
      have hat:ats= #[t] :=by apply Array.ext';exact hts
      rw [hat]
      obtain ⟨h1,h2⟩:=alen_ok hC (ty:=ty) hu hx w
      exact OpOK.val h1 (Tr.refl hr) (VR.flat1 ι h2)
     ·split at e
      ·rename_i u hu
       cases e
       obtain ⟨x',hq,hx⟩:=one x _ hv'
       rw [hq]
       have hat:ats= #[t] :=by apply Array.ext';exact hts
       rw [hat]
       obtain ⟨h1,h2⟩:=mlen_ok hC hr (ty:=ty) hu hx
       exact OpOK.val h1 (Tr.refl hr) (VR.flat1 ι h2)
      ·split at e
       ·rename_i u hu
        cases e
        obtain ⟨x',hq,hx⟩:=one x _ hv'
        rw [hq]
        have hat:ats= #[t] :=by apply Array.ext';exact hts
        rw [hat]
        obtain ⟨v',h1,h2⟩:=alenM_ok hC (ty:=ty) hu hx w
        exact OpOK.val h1 (Tr.refl hr) h2
       ·cases e
    ·rename_i t x hts
     split at e
     ·rename_i s2 hs2
      cases e
      obtain ⟨x',hq,hx⟩:=one x _ hv'
      rw [hq]
      have hat:ats= #[t] :=by apply Array.ext';exact hts
      rw [hat]
      obtain ⟨w',h1,h2⟩:=mclear_ok hC hr (ty:=ty) hs2 hx
      exact OpOK.val h1 h2 (.tuple rfl (fun i hi=>absurd hi (Nat.not_lt_zero _)))
     ·cases e
    ·rename_i t x hts
     split at e
     ·rename_i u hu
      cases e
      obtain ⟨x',hq,hx⟩:=one x _ hv'
      rw [hq]
      obtain ⟨v',h1,h2⟩:=asliceD_ok (ats:=ats) (ty:=ty) hu hx w
      exact OpOK.val h1 (Tr.refl hr) h2
     ·cases e
    ·rename_i t t2 x y hts
     obtain ⟨x',y',hq,hx,hy⟩:=two x y _ hv'
     rw [hq]
     have hat:ats= #[t,t2] :=by apply Array.ext';exact hts
     rw [hat]
     obtain ⟨w',h1,h2,h3⟩:=ausString_ok hC hr (ty:=ty) (t2:=t2) e hx hy
     exact OpOK.val h1 h2 (VR.flat1 ι h3)
    ·cases e
   ·cases h
  ·cases h
 ·split at h
  ·rename_i vs hvs
   have hv:=aevs_ok (ac:=ac) (ι:=ι) op.operands.toList vs (fun x hx=>ho x (Array.mem_toList_iff.1 hx)) hvs
   have g: ∀ (i:Nat) (x:Operand) (v:Value),op.operands.toList[i]? =some x→vs[i]? =some v→VR ι v (ac.eval x):=fun i x v h1 h2=>hv.2 i v _ h2 (by rw [List.getElem?_map,h1];rfl)
   exact mop_ok hC hr h g ⟨dst,op,ty,pos,aft,gd⟩ rfl
  ·cases h
end
end
end Go.Proofs.YtdcioacjhpnihaaGreatDoor
namespace Go.Proofs.YtdcioacjhpnihaaGreatDoor
open Go
noncomputable section
def DR (ι:Emb) (d d':Deferred):Prop:=match d.target,d'.target with
 | .fn (.func f) c, .fn (.func f') c'=>f'=f∧VRs ι c c'∧VRs ι d.args d'.args
 | .collected r, .collected r'=>ι.b r=some r'
 |_,_=>False
def DRs (ι:Emb):List Deferred→List Deferred→Prop
 | [], [] =>True
 |a::l,b::k=>DR ι a b∧DRs ι l k
 |_,_=>False
theorem DR.mono {ι ι':Emb} (hl:ι.le ι') {d d':Deferred} (h:DR ι d d'):DR ι' d d':=by
 obtain ⟨t,as⟩:=d
 obtain ⟨t',as'⟩:=d'
 unfold DR at*
 split at h
 ·exact ⟨h.1,h.2.1.mono hl,h.2.2.mono hl⟩
 ·exact (hl _ _ h).1
 ·exact h.elim
theorem DRs.mono {ι ι':Emb} (hl:ι.le ι'): ∀ {l l':List Deferred},DRs ι l l'→DRs ι' l l'
 | [], [],_=>trivial
 |_::_,_::_,h=>⟨h.1.mono hl,h.2.mono hl⟩
 | [],_::_,h=>h.elim
 |_::_, [],h=>h.elim
structure AR (ι:Emb) (a ac:Act):Prop where
 t:VRs ι a.tmps ac.tmps
 d:DRs ι a.defers ac.defers
theorem AR.mono {ι ι':Emb} (hl:ι.le ι') {a ac:Act} (h:AR ι a ac):AR ι' a ac:=⟨h.t.mono hl,h.d.mono hl⟩
def OpT (F:Fence) (f:Nat) (P:Program) (C:Cfg) (o:Oper) (a:Act) (m:Mem) (v:Value) (m':Mem):Prop:=
 ∀ι w (ac:Act),Rep P C.G ι m w→(∀x∈o.op.operands, ∀u,aev C a x=some u→VR ι u (ac.eval x))→ ∀ (K:Act→World→Prop) (Q:Exit→Act→World→Prop),
  (∀ι' w' v',Tr P C.G ι m w ι' m' w'→VR ι' v v'→K (ac.put o.dst v') w')→o.wpIn F f P ac w K Q
def AlT (F:Fence) (f:Nat) (P:Program) (C:Cfg) (o:Oper) (a:Act) (k:Nat) (ob:Obj) (v:Value):Prop:=
 ∀ι w m (ac:Act),Rep P C.G ι m w→ι.b k=none→(∀x∈o.op.operands, ∀u,aev C a x=some u→VR ι u (ac.eval x))→ ∀ (K:Act→World→Prop) (Q:Exit→Act→World→Prop),
  (∀ob' v' x w',(w'=w.alloc ob'∨w'=w.drew.alloc ob')→objR P (ι.add k w.heap.size x) x ob ob'→VR (ι.add k w.heap.size x) v v'→K (ac.put o.dst v') w')→o.wpIn F f P ac w K Q
section
variable {F:Fence} {f:Nat} {P:Program} {C:Cfg} {ops:Array Oper} {Q:Exit→Act→World→Prop}
theorem Tr.addR {ι₀ ι:Emb} {m₀ m:Mem} {w₀ w:World} (h:Tr P C.G ι₀ m₀ w₀ ι m w) {k x:Nat} {o o':Obj} (hk:ι.b k=none) (h15:15<m₀.n) (hk0:m₀.n≤k) {m':Mem} (hm: ∀j,m'.get j=if j=k then some o else m.get j) (hn:m'.n=m.n) (hkn:k<m.n)
  (hr:objR P (ι.add k w.heap.size x) x o o'):Tr P C.G ι₀ m₀ w₀ (ι.add k w.heap.size x) m' (w.alloc o'):=by
 refine ⟨h.le.trans (Emb.le_add hk),h.rep.add hk (by omega) hm (by omega) (by omega) hr,h.os,h.tape,h.output,by have:=h.size;simp;omega,fun j hj hq=> ?_,fun j c hj hc hlt=> ?_,fun j hj=> ?_,by have:=h.n;omega,fun j hj hn=> ?_⟩
 ·rw [←h.keep j hj hq]
  show (w.heap.push o')[j]? =_
  rw [Array.getElem?_push,if_neg (by have:=h.size;omega)]
 ·by_cases e:j=k
  ·subst e
   rw [Emb.add_b] at hc
   cases hc
   exact absurd hlt (by have:=h.size;omega)
  ·rw [hm,if_neg e] at hj
   simp only [Emb.add,e,if_false] at hc
   exact h.rng j c hj hc hlt
 ·by_cases e:j=k
  ·exact .inr (e▸hk0)
  ·rw [hm,if_neg e] at hj
   exact h.dom j hj
 ·simp only [Emb.add]
  rw [if_neg (by omega)]
  exact h.res j hj hn
structure Reg (F:Fence) (f:Nat) (P:Program) (C:Cfg) (ops:Array Oper) (a0:Act) (base m:Nat) (V:Nat→Value) (kd rk:Nat→Nat) (H HI:Nat→Mem) (Ao:Nat→Obj) (wt:Nat→Bool) (at_:Nat→Act) (dep:Nat→Nat→Bool):Prop where
 edge: ∀i o,ops[i]? =some o→ ∀e∈o.after,Region.binds .any e=true→e.on<i
 dep_: ∀ (l:Array Bool) i o,ops[i]? =some o→(∀j oj,ops[j]? =some oj→l.getD j false=true→ ∀e∈oj.after,Region.binds .any e=true→l.getD e.on false=true)→(∀e∈o.after,Region.binds .any e=true→l.getD e.on false=true)→ ∀j,dep i j=true→l.getD j false=true
 uniq: ∀ (i j:Nat) (oi oj:Oper) (t:Tmp),ops[i]? =some oi→ops[j]? =some oj→oi.dst=some t→oj.dst=some t→i=j
 rd: ∀ (i:Nat) (oi:Oper),ops[i]? =some oi→ ∀t,(.tmp t∈oi.op.operands∨ ∃g b,oi.guard=some (g,b)∧ ∃og:Oper,ops[g]? =some og∧og.dst=some t)→
  (∀ (j:Nat) (oj:Oper),ops[j]? =some oj→oj.dst=some t→(dep i j=true∧(at_ i).tmps[t]? =(if t<a0.tmps.size then some (V j) else none))∨((dep j i=true∨j=i)∧(at_ i).tmps[t]? =a0.tmps[t]?))∧
  ((∀ (j:Nat) (oj:Oper),ops[j]? =some oj→oj.dst≠some t)→(at_ i).tmps[t]? =a0.tmps[t]?)
 size: ∀i,(at_ i).tmps.size=a0.tmps.size
 wanted: ∀i oi,ops[i]? =some oi→wt i=Region.wanted oi (yielded ops (at_ i).tmps)
 skip: ∀i,wt i=false→V i=undef
 kind: ∀i,i<ops.size→kd i=0∨(kd i=1∧wt i=true)∨(kd i=2∧wt i=true)
 rkm: ∀i,i<ops.size→(kd i=2→rk i<m)∧(kd i=1→rk i≤m)
 chain: ∀i j,i<ops.size→j<ops.size→kd i=2→kd j=2→rk j<rk i→dep i j=true
 inj: ∀i j,i<ops.size→j<ops.size→kd i=2→kd j=2→rk i=rk j→i=j
 eff: ∀k,k<m→ ∃i,i<ops.size∧kd i=2∧rk i=k
 late: ∀i j,i<ops.size→j<ops.size→kd i=2→kd j=1→rk j=rk i→dep i j=true
 mem0: (H 0).n=base+ops.size
 get0: ∀q,base≤q→(H 0).get q=none
 memI: ∀k,k<m→(HI k).n=(H k).n∧ ∀q,(HI k).get q=if base≤q∧q<base+ops.size∧kd (q-base)=1∧rk (q-base)=k then some (Ao (q-base)) else (H k).get q
 free: ∀k i,k≤m→i<ops.size→kd i=1→k≤rk i→(H k).get (base+i)=none
 ge: ∀k,k≤m→base+ops.size≤ (H k).n
 take: ∀i oi k,ops[i]? =some oi→kd i=0→wt i=true→k≤m→(∀e,e<ops.size→kd e=2→dep i e=true→rk e<k)→(∀e,e<ops.size→kd e=2→dep e i=true→k≤rk e)→OpT F f P C oi (at_ i) (H k) (V i) (H k)
 effT: ∀i oi,ops[i]? =some oi→kd i=2→OpT F f P C oi (at_ i) (HI (rk i)) (V i) (H (rk i+1))
 alT: ∀i oi,ops[i]? =some oi→kd i=1→AlT F f P C oi (at_ i) (base+i) (Ao i) (V i)
def MD (ops:Array Oper) (base:Nat) (kd rk:Nat→Nat) (H:Nat→Mem) (Ao:Nat→Obj) (l:Array Bool) (k:Nat):Mem:=
 ⟨fun q=>if base≤q∧q<base+ops.size∧kd (q-base)=1∧l.getD (q-base) false=true∧k≤rk (q-base) then some (Ao (q-base)) else (H k).get q,(H k).n⟩
def Closed' (ops:Array Oper) (l:Array Bool):Prop:= ∀j oj,ops[j]? =some oj→l.getD j false=true→ ∀e∈oj.after,Region.binds .any e=true→l.getD e.on false=true
structure RInv (P:Program) (C:Cfg) (ops:Array Oper) (a0:Act) (base m:Nat) (V:Nat→Value) (kd rk:Nat→Nat) (H:Nat→Mem) (Ao:Nat→Obj) (ι₀:Emb) (m₀:Mem) (w₀:World) (l:Array Bool) (ac:Act) (w:World) (ι:Emb) (k:Nat):Prop where
 size:l.size=ops.size
 closed:Closed' ops l
 km:k≤m
 effs: ∀i,i<ops.size→kd i=2→(l.getD i false=true↔rk i<k)
 tr:Tr P C.G ι₀ m₀ w₀ ι (MD ops base kd rk H Ao l k) w
 res: ∀i,i<ops.size→kd i=1→l.getD i false=false→ι.b (base+i)=none
 tsz:ac.tmps.size=a0.tmps.size
 done: ∀i (oi:Oper) t,ops[i]? =some oi→oi.dst=some t→l.getD i false=true→ ∀h:t<ac.tmps.size,VR ι (V i) ac.tmps[t]
 rest: ∀t,(∀i (oi:Oper),ops[i]? =some oi→oi.dst=some t→l.getD i false=false)→ ∀ (h:t<a0.tmps.size) (h':t<ac.tmps.size),VR ι a0.tmps[t] ac.tmps[t]
 defs:DRs ι a0.defers ac.defers
theorem getD_set {l:Array Bool} {i j:Nat} (hi:i<l.size): (l.setIfInBounds i true).getD j false=(if j=i then true else l.getD j false):=by
 simp only [Array.getD_eq_getD_getElem?,Array.getElem?_setIfInBounds]
 by_cases h:i=j
 ·subst h;simp [hi]
 ·simp [h,Ne.symm h]
end
end
end Go.Proofs.YtdcioacjhpnihaaGreatDoor
namespace Go.Proofs.YtdcioacjhpnihaaGreatDoor
open Go
noncomputable section
def cl (l:Array Bool):Nat→Nat
 |0=>0
 |n+1=>cl l n+ (if l.getD n false=true then 1 else 0)
theorem cl_le (l:Array Bool): ∀n,cl l n≤n
 |0=>Nat.le_refl _
 |n+1=>by have:=cl_le l n;simp only [cl];split<;>omega
theorem cl_all (l:Array Bool): ∀n,cl l n=n→ ∀i,i<n→l.getD i false=true
 |0,_,i,h=>absurd h (Nat.not_lt_zero _)
 |n+1,e,i,h=>by
  have:=cl_le l n
  simp only [cl] at e
  split at e
  ·rename_i hn
   by_cases hi:i=n
   ·subst hi;exact hn
   ·exact cl_all l n (by omega) i (by omega)
  ·omega
theorem cl_set (l:Array Bool) (i:Nat) (hi:i<l.size) (hl:l.getD i false=false): ∀n,cl (l.setIfInBounds i true) n=cl l n+ (if i<n then 1 else 0)
 |0=>by simp [cl]
 |n+1=>by
  simp only [cl]
  rw [cl_set l i hi hl n,getD_set hi]
  by_cases h:n=i
  ·subst h;simp only [if_pos,hl];simp
  ·simp only [h,if_false]
   by_cases h2:i<n
   ·simp only [h2,if_true,show i<n+1 by omega];omega
   ·simp only [h2,if_false,show ¬i<n+1 by omega];omega
section
variable {F:Fence} {f:Nat} {P:Program} {C:Cfg} {ops:Array Oper} {Q:Exit→Act→World→Prop} {a0:Act} {base m:Nat} {V:Nat→Value} {kd rk:Nat→Nat} {H HI:Nat→Mem} {Ao:Nat→Obj} {wt:Nat→Bool} {at_:Nat→Act} {dep:Nat→Nat→Bool} {ι₀:Emb} {m₀:Mem} {w₀:World}
theorem Act.put_tmps (a:Act) (t:Tmp) (v:Value): (a.put (some t) v).tmps=a.tmps.setIfInBounds t v:=rfl
theorem put_get (a:Act) (d:Option Tmp) (v:Value) (t:Nat) (h:t< (a.put d v).tmps.size) (h':t<a.tmps.size): (a.put d v).tmps[t] =if d=some t then v else a.tmps[t] :=by
 cases d with
 |none=>rfl
 |some d=>
  simp only [Act.put_tmps] at h ⊢
  rw [Array.getElem_setIfInBounds h']
  by_cases e:d=t
  ·simp [e]
  ·simp [e]
theorem put_size (a:Act) (d:Option Tmp) (v:Value): (a.put d v).tmps.size=a.tmps.size:=by cases d<;>simp [Act.put]
theorem put_defers (a:Act) (d:Option Tmp) (v:Value): (a.put d v).defers=a.defers:=by cases d<;>rfl
variable (R:Reg F f P C ops a0 base m V kd rk H HI Ao wt at_ dep) (hm0:m₀.n=base)
include R
theorem reg_rd {l:Array Bool} {ac:Act} {w:World} {ι:Emb} {k:Nat} (h:RInv P C ops a0 base m V kd rk H Ao ι₀ m₀ w₀ l ac w ι k) {i:Nat} {oi:Oper} (hoi:ops[i]? =some oi) (hun:l.getD i false=false)
  (hall: ∀e∈oi.after,Region.binds .any e=true→l.getD e.on false=true) {t:Nat} (ht: .tmp t∈oi.op.operands∨ ∃g b,oi.guard=some (g,b)∧ ∃og:Oper,ops[g]? =some og∧og.dst=some t):
  ∀ (h1:t< (at_ i).tmps.size) (h2:t<ac.tmps.size),VR ι (at_ i).tmps[t] ac.tmps[t] :=by
 intro h1 h2
 have hsz:=R.size i
 have hts:t<a0.tmps.size:=hsz▸h1
 obtain ⟨c1,c2⟩:=R.rd i oi hoi t ht
 by_cases hex: ∃j:Nat, ∃oj:Oper,ops[j]? =some oj∧oj.dst=some t
 ·obtain ⟨j,oj,hj,hd⟩:=hex
  rcases c1 j oj hj hd with ⟨hdep,e⟩| ⟨hdep,e⟩
  ·have hl:=R.dep_ l i oi hoi h.closed hall j hdep
   rw [Array.getElem?_eq_getElem h1,if_pos hts] at e
   injection e with e
   rw [e]
   exact h.done j oj t hj hd hl h2
  ·have hl:l.getD j false=false:=by
    cases hlj:l.getD j false with
    |false=>rfl
    |true=>
     rcases hdep with hdep |rfl
     ·have:=R.dep_ l j oj hj h.closed (h.closed j oj hj hlj) i hdep
      rw [hun] at this
      cases this
     ·rw [hun] at hlj;cases hlj
   rw [Array.getElem?_eq_getElem h1,Array.getElem?_eq_getElem hts] at e
   injection e with e
   rw [e]
   refine h.rest t (fun q oq hq hqd=> ?_) hts h2
   rw [R.uniq q j oq oj t hq hj hqd hd]
   exact hl
 ·have e:=c2 (fun j oj hj hd=>hex ⟨j,oj,hj,hd⟩)
  rw [Array.getElem?_eq_getElem h1,Array.getElem?_eq_getElem hts] at e
  injection e with e
  rw [e]
  exact h.rest t (fun q oq hq hqd=>absurd ⟨q,oq,hq,hqd⟩ hex) hts h2
theorem reg_wanted {l:Array Bool} {ac:Act} {w:World} {ι:Emb} {k:Nat} (h:RInv P C ops a0 base m V kd rk H Ao ι₀ m₀ w₀ l ac w ι k) {i:Nat} {oi:Oper} (hoi:ops[i]? =some oi) (hun:l.getD i false=false)
  (hall: ∀e∈oi.after,Region.binds .any e=true→l.getD e.on false=true):Region.wanted oi (yielded ops ac.tmps)=wt i:=by
 rw [R.wanted i oi hoi]
 unfold Region.wanted
 cases hg:oi.guard with
 |none=>rfl
 |some gb=>
  obtain ⟨g,b⟩:=gb
  simp only
  congr 1
  unfold yielded
  cases hog:ops[g]? with
  |none=>rfl
  |some og=>
   simp only [Option.bind_some]
   cases hd:og.dst with
   |none=>rfl
   |some t=>
    simp only [Option.bind_some]
    have hsz: (at_ i).tmps.size=ac.tmps.size:=by rw [R.size i,h.tsz]
    by_cases ht:t<ac.tmps.size
    ·have ht':t< (at_ i).tmps.size:=hsz▸ht
     have:=reg_rd R h hoi hun hall (t:=t) (.inr ⟨g,b,hg,og,hog,hd⟩) ht' ht
     rw [Array.getElem?_eq_getElem ht,Array.getElem?_eq_getElem ht']
     generalize (at_ i).tmps[t] =x at this
     generalize ac.tmps[t] =y at this
     cases this<;>rfl
    ·have e1:ac.tmps[t]? =none:=Array.getElem?_eq_none (Nat.le_of_not_lt ht)
     have e2: (at_ i).tmps[t]? =none:=Array.getElem?_eq_none (by rw [hsz];exact Nat.le_of_not_lt ht)
     rw [e1,e2]
theorem reg_step {l:Array Bool} {ac:Act} {w w':World} {ι ι':Emb} {k k':Nat} (h:RInv P C ops a0 base m V kd rk H Ao ι₀ m₀ w₀ l ac w ι k) {i:Nat} {oi:Oper} (hoi:ops[i]? =some oi) (hun:l.getD i false=false)
  (hall: ∀e∈oi.after,Region.binds .any e=true→l.getD e.on false=true) (hk:k'≤m) (heffs: ∀j,j<ops.size→kd j=2→((l.setIfInBounds i true).getD j false=true↔rk j<k'))
  (htr:Tr P C.G ι₀ m₀ w₀ ι' (MD ops base kd rk H Ao (l.setIfInBounds i true) k') w') (hle:ι.le ι') (hres: ∀j,j<ops.size→kd j=1→(l.setIfInBounds i true).getD j false=false→ι'.b (base+j)=none) {v:Value} (hv:VR ι' (V i) v):
  RInv P C ops a0 base m V kd rk H Ao ι₀ m₀ w₀ (l.setIfInBounds i true) (ac.put oi.dst v) w' ι' k':=by
 have hi:i<l.size:=by rw [h.size];exact (Array.getElem?_eq_some_iff.1 hoi).1
 have hmono: ∀j,l.getD j false=true→(l.setIfInBounds i true).getD j false=true:=fun j hj=>by rw [getD_set hi];split<;>first |rfl |exact hj
 refine ⟨by simpa using h.size,fun j oj hj hl e he hb=> ?_,hk,heffs,htr,hres,by rw [put_size];exact h.tsz,fun j oj t hj hd hl ht=> ?_,fun t hn h1 h2=> ?_,by rw [put_defers];exact h.defs.mono hle⟩
 ·by_cases e1:j=i
  ·subst e1
   rw [hoi] at hj
   cases hj
   exact hmono _ (hall e he hb)
  ·rw [getD_set hi,if_neg e1] at hl
   exact hmono _ (h.closed j oj hj hl e he hb)
 ·have ht':t<ac.tmps.size:=by rwa [put_size] at ht
  rw [put_get ac oi.dst v t ht ht']
  by_cases e1:j=i
  ·subst e1
   rw [hoi] at hj
   cases hj
   rw [if_pos hd]
   exact hv
  ·rw [getD_set hi,if_neg e1] at hl
   rw [if_neg (fun e=>e1 (R.uniq j i oj oi t hj hoi hd e))]
   exact (h.done j oj t hj hd hl ht').mono hle
 ·have ht':t<ac.tmps.size:=by rwa [put_size] at h2
  rw [put_get ac oi.dst v t h2 ht']
  have hne:oi.dst≠some t:=fun e=>by
   have:=hn i oi hoi e
   rw [getD_set hi,if_pos rfl] at this
   cases this
  rw [if_neg hne]
  refine (h.rest t (fun j oj hj hd=> ?_) h1 ht').mono hle
  have:=hn j oj hj hd
  rw [getD_set hi] at this
  split at this
  ·cases this
  ·exact this
set_option maxHeartbeats 1000000 in
theorem reg_any (hF: ∀g,F.fn g) (hm0:m₀.n=base) (h15:15<m₀.n) (hQ: ∀l ac w ι,(∀i,i<ops.size→l.getD i false=true)→RInv P C ops a0 base m V kd rk H Ao ι₀ m₀ w₀ l ac w ι m→Q .normal ac w):
  ∀n (l:Array Bool) (ac:Act) (w:World) (ι:Emb) (k:Nat),RInv P C ops a0 base m V kd rk H Ao ι₀ m₀ w₀ l ac w ι k→cl l ops.size+n=ops.size→wpAnyIn F f P .any ops Q n l ac w:=by
 have fin: ∀ (l:Array Bool) (ac:Act) (w:World) (ι:Emb) (k:Nat),RInv P C ops a0 base m V kd rk H Ao ι₀ m₀ w₀ l ac w ι k→(∀i,i<ops.size→l.getD i false=true)→Q .normal ac w:=fun l ac w ι k h hall=>by
  have hk:k=m:=by
   rcases Nat.lt_or_ge k m with hlt |hge
   ·obtain ⟨e,he,hke,hre⟩:=R.eff k hlt
    have:=(h.effs e he hke).1 (hall e he)
    omega
   ·have:=h.km;omega
  subst hk
  exact hQ l ac w ι hall h
 have allOf: ∀ (l:Array Bool),l.size=ops.size→Region.ready .any ops l= [] → ∀i,i<ops.size→l.getD i false=true:=fun l hls hr i=>by
  induction i using Nat.strongRecOn with
  |_ i ih=>
   intro hi
   cases hl:l.getD i false with
   |true=>rfl
   |false=>
    exfalso
    have:i∈Region.ready .any ops l:=by
     refine mem_ready.2 ⟨?_,ops[i],Array.getElem?_eq_getElem hi,fun e he hb=> ?_⟩
     ·have hi':i<l.size:=by omega
      simp [hi'] at hl ⊢
      exact hl
     ·have:=R.edge i _ (Array.getElem?_eq_getElem hi) e he hb
      exact ih e.on this (by omega)
    rw [hr] at this
    cases this
 intro n
 induction n with
 |zero=>
  intro l ac w ι k h hn
  have hall:=cl_all l ops.size (by omega)
  refine ⟨List.eq_nil_iff_forall_not_mem.2 fun i hi=> ?_,fin l ac w ι k h hall⟩
  obtain ⟨hiun,oi,hoi,_⟩:=mem_ready.1 hi
  have hil:=(Array.getElem?_eq_some_iff.1 hoi).1
  have:=hall i hil
  have hi':i<l.size:=by rw [h.size];exact hil
  simp [hi'] at this hiun
  rw [this] at hiun
  cases hiun
 |succ n ih=>
  intro l ac w ι k h hn
  refine ⟨fun hr=>fin l ac w ι k h (allOf l h.size hr),fun i hi=> ?_⟩
  obtain ⟨hiun,oi,hoi,hall⟩:=mem_ready.1 hi
  have hil:=(Array.getElem?_eq_some_iff.1 hoi).1
  have hi':i<l.size:=by rw [h.size];exact hil
  have hun:l.getD i false=false:=by simp [hi'] at hiun ⊢;exact hiun
  have hgs: ∀j,(l.setIfInBounds i true).getD j false=(if j=i then true else l.getD j false):=fun j=>getD_set hi'
  have hn':cl (l.setIfInBounds i true) ops.size+n=ops.size:=by rw [cl_set l i hi' hun,if_pos hil];omega
  have hw:=reg_wanted R h hoi hun hall
  have hop: ∀x∈oi.op.operands, ∀u,aev C (at_ i) x=some u→VR ι u (ac.eval x):=fun x hx u hu=>by
   refine aev_ok h.tr.rep (a:=at_ i) (fun t e v hv=> ?_) hu
   subst e
   obtain ⟨h1,rfl⟩:=Array.getElem?_eq_some_iff.1 hv
   have h2:t<ac.tmps.size:=by rw [h.tsz, ←R.size i];exact h1
   have:=reg_rd R h hoi hun hall (t:=t) (.inl hx) h1 h2
   simpa [Array.getD,h2] using this
  have hfn: ∀ (g:FuncId),F.fn g:=hF
  have hsub: ∀q o,(H k).get q=some o→(MD ops base kd rk H Ao l k).get q=some o:=fun q o hq=>by
   simp only [MD]
   split
   ·rename_i hc
    have:=R.free k (q-base) h.km (by omega) hc.2.2.1 hc.2.2.2.2
    rw [show base+ (q-base)=q by omega,hq] at this
    cases this
   ·exact hq
  have hMDlt: ∀q,(MD ops base kd rk H Ao l k).get q≠none→(H k).get q=none→q< (H k).n:=fun q h1 h2=>by
   simp only [MD] at h1
   split at h1
   ·rename_i hc
    have:=R.ge k h.km
    omega
   ·exact absurd h2 h1
  unfold wpOpIn
  rw [hoi]
  simp only [hw]
  rcases R.kind i hil with hk0 | ⟨hk1,hwt⟩| ⟨hk2,hwt⟩
  ·
   have hMD: ∀q,(MD ops base kd rk H Ao (l.setIfInBounds i true) k).get q=(MD ops base kd rk H Ao l k).get q:=fun q=>by
    simp only [MD,hgs]
    by_cases hq:q-base=i
    ·rw [hq,hk0];simp
    ·rw [if_neg hq]
   have hMDe:MD ops base kd rk H Ao (l.setIfInBounds i true) k=MD ops base kd rk H Ao l k:=by
    have:=funext hMD
    simp only [MD] at this ⊢
    rw [this]
   have heffs: ∀j,j<ops.size→kd j=2→((l.setIfInBounds i true).getD j false=true↔rk j<k):=fun j hj hkj=>by
    rw [hgs,if_neg (fun e=>by subst e;omega)]
    exact h.effs j hj hkj
   have hres: ∀ (ι':Emb),(∀q,q< (H k).n→ι.b q=none→ι'.b q=none)→ ∀j,j<ops.size→kd j=1→(l.setIfInBounds i true).getD j false=false→ι'.b (base+j)=none:=fun ι' hι j hj hkj hlj=>by
    rw [hgs,if_neg (fun e=>by subst e;omega)] at hlj
    exact hι _ (by have:=R.ge k h.km;omega) (h.res j hj hkj hlj)
   cases hwt:wt i with
   |false=>
    simp only [Bool.false_eq_true,if_false]
    refine ⟨fun g _=>hfn g,ih _ _ _ ι k (reg_step R h hoi hun hall h.km heffs (by rw [hMDe];exact h.tr) ι.le_refl (hres ι (fun _ _ h=>h)) ?_) hn'⟩
    rw [R.skip i hwt]
    exact .tuple rfl (fun i hi=>absurd hi (Nat.not_lt_zero _))
   |true=>
    simp only [if_true]
    have hT:=R.take i oi k hoi hk0 hwt h.km (fun e he hke hde=>by
      have:=R.dep_ l i oi hoi h.closed hall e hde
      exact (h.effs e he hke).1 this) (fun e he hke hde=>by
      rcases Nat.lt_or_ge (rk e) k with hlt |hge
      ·have hle:=(h.effs e he hke).2 hlt
       have:=R.dep_ l e _ (Array.getElem?_eq_getElem he) h.closed (h.closed e _ (Array.getElem?_eq_getElem he) hle) i hde
       rw [hun] at this
       cases this
      ·exact hge)
    refine hT ι w ac (h.tr.rep.less hsub (Nat.le_refl _)) hop _ Q fun ι' w' v' ht hv=> ?_
    have ht2:Tr P C.G ι (MD ops base kd rk H Ao l k) w ι' (MD ops base kd rk H Ao l k) w':=ht.frame h.tr.rep hsub rfl rfl (fun q=>by
      by_cases hq: (H k).get q=none
      ·simp [hq]
      ·simp only [ne_eq,hq,not_false_eq_true,if_true]
       obtain ⟨o,ho⟩:=Option.ne_none_iff_exists'.1 hq
       rw [hsub q o ho,ho]) hMDlt
    exact ih _ _ _ ι' k (reg_step R h hoi hun hall h.km heffs (by rw [hMDe];exact h.tr.trans ht2) ht.le (hres ι' (fun q hq hb=>ht.res q hq hb)) hv) hn'
  ·
   have hkr:k≤rk i:=by
    rcases Nat.lt_or_ge (rk i) k with hlt |hge
    ·obtain ⟨e,he,hke,hre⟩:=R.eff (rk i) (Nat.lt_of_lt_of_le hlt h.km)
     have hle:=(h.effs e he hke).2 (by omega)
     have:=R.dep_ l e _ (Array.getElem?_eq_getElem he) h.closed (h.closed e _ (Array.getElem?_eq_getElem he) hle) i (R.late e i he hil hke hk1 hre.symm)
     rw [hun] at this
     cases this
    ·exact hge
   simp only [hwt,if_true]
   have hb:=h.res i hil hk1 hun
   refine R.alT i oi hoi hk1 ι w _ ac h.tr.rep hb hop _ Q fun ob' v' x w' hw' hob hv=> ?_
   have hMD: ∀q,(MD ops base kd rk H Ao (l.setIfInBounds i true) k).get q=if q=base+i then some (Ao i) else (MD ops base kd rk H Ao l k).get q:=fun q=>by
    simp only [MD,hgs]
    by_cases hq:q=base+i
    ·subst hq
     rw [show base+i-base=i by omega]
     simp [hil,hk1,hkr]
    ·rw [if_neg hq]
     by_cases hq2:base≤q
     ·rw [if_neg (show ¬q-base=i by omega)]
     ·simp [hq2]
   have htr:Tr P C.G ι₀ m₀ w₀ (ι.add (base+i) w.heap.size x) (MD ops base kd rk H Ao (l.setIfInBounds i true) k) w':=by
    have hlt:base+i< (H k).n:=by have:=R.ge k h.km;omega
    rcases hw' with rfl |rfl
    ·exact h.tr.addR (o:=Ao i) (o':=ob') (x:=x) hb h15 (by omega) hMD rfl hlt hob
    ·exact (h.tr.trans (Tr.drew h.tr.rep)).addR (w:=w.drew) (o:=Ao i) (o':=ob') (x:=x) hb h15 (by omega) hMD rfl hlt hob
   refine ih _ _ _ _ k (reg_step R h hoi hun hall h.km (fun j hj hkj=> ?_) htr (Emb.le_add hb) (fun j hj hkj hlj=> ?_) hv) hn'
   ·rw [hgs,if_neg (fun e=>by subst e;omega)]
    exact h.effs j hj hkj
   ·rw [hgs] at hlj
    split at hlj
    ·cases hlj
    ·rename_i hji
     simp only [Emb.add]
     rw [if_neg (by omega)]
     exact h.res j hj hkj hlj
  ·
   have hkr:rk i=k:=by
    have h1: ¬rk i<k:=fun e=>by
     have:=(h.effs i hil hk2).2 e
     rw [hun] at this
     cases this
    have h2:=(R.rkm i hil).1 hk2
    rcases Nat.lt_or_ge k (rk i) with hlt |hge
    ·obtain ⟨e,he,hke,hre⟩:=R.eff k (by omega)
     have:=R.dep_ l i oi hoi h.closed hall e (R.chain i e hil he hk2 hke (by omega))
     have:=(h.effs e he hke).1 this
     omega
    ·omega
   have hkm:k<m:=by have:=(R.rkm i hil).1 hk2;omega
   obtain ⟨hIn,hIg⟩:=R.memI k hkm
   simp only [hwt,if_true]
   have hT:=R.effT i oi hoi hk2
   rw [hkr] at hT
   have habs: ∀j,j<ops.size→kd j=1→rk j=k→l.getD j false=true:=fun j hj hkj hrj=>R.dep_ l i oi hoi h.closed hall j (R.late i j hil hj hk2 hkj (by omega))
   have hIsub: ∀q o,(HI k).get q=some o→(MD ops base kd rk H Ao l k).get q=some o:=fun q o hq=>by
    rw [hIg] at hq
    split at hq
    ·rename_i hc
     simp only [MD]
     rw [if_pos ⟨hc.1,hc.2.1,hc.2.2.1,habs _ (by omega) hc.2.2.1 hc.2.2.2,by omega⟩]
     exact hq
    ·exact hsub q o hq
   refine hT ι w ac (h.tr.rep.less hIsub (by rw [hIn];exact Nat.le_refl _)) hop _ Q fun ι' w' v' ht hv=> ?_
   have hfree1: ∀j,j<ops.size→kd j=1→k+1≤rk j→(H (k+1)).get (base+j)=none:=fun j hj hkj hrj=>R.free (k+1) j hkm hj hkj hrj
   have hIfree: ∀j,j<ops.size→kd j=1→k+1≤rk j→(HI k).get (base+j)=none:=fun j hj hkj hrj=>by
    rw [hIg,if_neg (by rw [show base+j-base=j by omega];omega)]
    exact R.free k j h.km hj hkj (by omega)
   have hMD: ∀q,(MD ops base kd rk H Ao (l.setIfInBounds i true) (k+1)).get q=if (H (k+1)).get q≠none then (H (k+1)).get q else if (HI k).get q=none then (MD ops base kd rk H Ao l k).get q else none:=fun q=>by
    simp only [MD,hgs]
    by_cases hc:base≤q∧q<base+ops.size∧kd (q-base)=1∧l.getD (q-base) false=true∧k+1≤rk (q-base)
    ·have hqi:q-base≠i:=fun e=>by rw [e] at hc;omega
     have e1:=hfree1 (q-base) (by omega) hc.2.2.1 hc.2.2.2.2
     have e2:=hIfree (q-base) (by omega) hc.2.2.1 hc.2.2.2.2
     rw [show base+ (q-base)=q by omega] at e1 e2
     rw [if_neg hqi,if_pos hc,e1,e2]
     simp only [ne_eq,not_true,if_false,if_true]
     rw [if_pos ⟨hc.1,hc.2.1,hc.2.2.1,hc.2.2.2.1,by omega⟩]
    ·have hqi: ¬ (base≤q∧q<base+ops.size∧kd (q-base)=1∧(if q-base=i then true else l.getD (q-base) false)=true∧k+1≤rk (q-base)):=fun e=>by
      by_cases hq:q-base=i
      ·rw [hq] at e;omega
      ·rw [if_neg hq] at e;exact hc e
     rw [if_neg hqi]
     by_cases h1: (H (k+1)).get q=none
     ·simp only [h1,ne_eq,not_true,if_false]
      by_cases h2: (HI k).get q=none
      ·simp only [h2,if_true]
       have h3:=h2
       rw [hIg] at h3
       split at h3
       ·cases h3
       ·rename_i hc3
        split
        ·rename_i hc2
         exfalso
         by_cases hrk:rk (q-base)=k
         ·exact hc3 ⟨hc2.1,hc2.2.1,hc2.2.2.1,hrk⟩
         ·exact hc ⟨hc2.1,hc2.2.1,hc2.2.2.1,hc2.2.2.2.1,by omega⟩
        ·exact h3.symm
      ·simp [h2]
     ·simp [h1]
   have ht2:Tr P C.G ι (MD ops base kd rk H Ao l k) w ι' (MD ops base kd rk H Ao (l.setIfInBounds i true) (k+1)) w':=ht.frame h.tr.rep hIsub (by rw [hIn];rfl) rfl hMD (fun q h1 h2=>by
     rw [hIn]
     by_cases hq: (H k).get q=none
     ·exact hMDlt q h1 hq
     ·rw [hIg] at h2
      split at h2
      ·cases h2
      ·exact absurd h2 hq)
   refine ih _ _ _ ι' (k+1) (reg_step R h hoi hun hall hkm (fun j hj hkj=> ?_) (h.tr.trans ht2) ht.le (fun j hj hkj hlj=> ?_) hv) hn'
   ·rw [hgs]
    by_cases hji:j=i
    ·subst hji
     simp only [if_true,true_iff]
     omega
    ·rw [if_neg hji,h.effs j hj hkj]
     constructor
     ·omega
     ·intro hlt
      have:rk j≠k:=fun e=>hji (R.inj j i hj hil hkj hk2 (by omega))
      omega
   ·rw [hgs] at hlj
    split at hlj
    ·cases hlj
    ·exact ht.res _ (by rw [hIn];have:=R.ge k h.km;omega) (h.res j hj hkj hlj)
end
end
end Go.Proofs.YtdcioacjhpnihaaGreatDoor
namespace Go.Proofs.YtdcioacjhpnihaaGreatDoor
open Go
noncomputable section
def maskE (ms:List Nat):List Edge→Option Nat
 | [] =>some 0
 |e::es=>match maskE ms es with
  |some r=>if Region.binds .any e then (match ms[e.on]? with
   |some x=>some (r |||2^e.on |||x)
   |none=>none) else some r
  |none=>none
def masks:List Oper→List Nat→Option (List Nat)
 | [],ms=>some ms
 |o::os,ms=>match maskE ms o.after.toList with
  |some r=>masks os (ms++ [r])
  |none=>none
theorem maskE_ok {ms:List Nat}: ∀ {es:List Edge} {r:Nat},maskE ms es=some r→(∀e∈es,Region.binds .any e=true→e.on<ms.length)∧ ∀j,r.testBit j=true→ ∃e∈es,Region.binds .any e=true∧(e.on=j∨ ∃x,ms[e.on]? =some x∧x.testBit j=true)
 | [],r,h=>by
  cases h
  exact ⟨(fun e he=>by cases he),fun j hj=>by simp at hj⟩
 |e::es,r,h=>by
  unfold maskE at h
  split at h
  ·rename_i r0 hr0
   obtain ⟨h1,h2⟩:=maskE_ok hr0
   split at h
   ·rename_i hb
    split at h
    ·rename_i x hx
     cases h
     refine ⟨fun e' he' hb'=> ?_,fun j hj=> ?_⟩
     ·rcases List.mem_cons.1 he' with rfl |he'
      ·exact (List.getElem?_eq_some_iff.1 hx).1
      ·exact h1 e' he' hb'
     ·simp only [Nat.testBit_or,Bool.or_eq_true] at hj
      rcases hj with (hj |hj)|hj
      ·obtain ⟨e',he',hb',hc⟩:=h2 j hj
       exact ⟨e',by simp [he'],hb',hc⟩
      ·rw [Nat.testBit_two_pow,decide_eq_true_eq] at hj
       exact ⟨e,by simp,hb, .inl hj⟩
      ·exact ⟨e,by simp,hb, .inr ⟨x,hx,hj⟩⟩
    ·cases h
   ·rename_i hb
    cases h
    refine ⟨fun e' he' hb'=> ?_,fun j hj=> ?_⟩
    ·rcases List.mem_cons.1 he' with rfl |he'
     ·exact absurd hb' hb
     ·exact h1 e' he' hb'
    ·obtain ⟨e',he',hb',hc⟩:=h2 j hj
     exact ⟨e',by simp [he'],hb',hc⟩
  ·cases h
theorem masks_len: ∀ {os:List Oper} {ms M:List Nat},masks os ms=some M→M.length=ms.length+os.length∧ ∀i,i<ms.length→M[i]? =ms[i]?
 | [],ms,M,h=>by cases h;simp
 |o::os,ms,M,h=>by
  unfold masks at h
  split at h
  ·rename_i r hr
   obtain ⟨h1,h2⟩:=masks_len h
   refine ⟨by simp at h1;simp;omega,fun i hi=> ?_⟩
   rw [h2 i (by simp;omega),List.getElem?_append_left hi]
  ·cases h
theorem masks_ok: ∀ {os:List Oper} {ms M:List Nat},masks os ms=some M→ ∀i o,os[i]? =some o→ ∃r,M[ms.length+i]? =some r∧maskE (M.take (ms.length+i)) o.after.toList=some r
 | [],ms,M,h,i,o,ho=>by simp at ho
 |o::os,ms,M,h,i,o',ho=>by
  unfold masks at h
  split at h
  ·rename_i r hr
   obtain ⟨h1,h2⟩:=masks_len h
   cases i with
   |zero=>
    simp at ho
    subst ho
    refine ⟨r,?_,?_⟩
    ·rw [Nat.add_zero,h2 _ (by simp)]
     simp
    ·have:M.take (ms.length+0)=ms:=by
      refine List.ext_getElem? fun j=> ?_
      rw [List.getElem?_take]
      split
      ·rename_i hj
       rw [h2 j (by simp;omega),List.getElem?_append_left (by omega)]
      ·rw [List.getElem?_eq_none (by omega)]
     rw [this]
     exact hr
   |succ i=>
    have:=masks_ok h i o' (by simpa using ho)
    simpa [Nat.add_assoc,Nat.add_comm 1 i] using this
  ·cases h
theorem masks_dep {ops:Array Oper} {M:List Nat} (h:masks ops.toList [] =some M):
  (∀i o,ops[i]? =some o→ ∀e∈o.after,Region.binds .any e=true→e.on<i)∧
  ∀ (l:Array Bool),(∀j oj,ops[j]? =some oj→l.getD j false=true→ ∀e∈oj.after,Region.binds .any e=true→l.getD e.on false=true)→
   ∀i o,ops[i]? =some o→(∀e∈o.after,Region.binds .any e=true→l.getD e.on false=true)→ ∀j,(M.getD i 0).testBit j=true→l.getD j false=true:=by
 have hm: ∀i o,ops[i]? =some o→ ∃r,M[i]? =some r∧maskE (M.take i) o.after.toList=some r:=fun i o ho=>by
  have:=masks_ok h i o (by simpa using ho)
  simpa using this
 have hlen:M.length=ops.size:=by have:=(masks_len h).1;simpa using this
 have hedge: ∀i o,ops[i]? =some o→ ∀e∈o.after,Region.binds .any e=true→e.on<i:=fun i o ho e he hb=>by
  obtain ⟨r,_,hr⟩:=hm i o ho
  have:=(maskE_ok hr).1 e (Array.mem_toList_iff.2 he) hb
  simp at this
  omega
 refine ⟨hedge,fun l hcl i=> ?_⟩
 induction i using Nat.strongRecOn with
 |_ i ih=>
  intro o ho hall j hj
  obtain ⟨r,hr1,hr⟩:=hm i o ho
  have:M.getD i 0=r:=by simp [List.getD,hr1]
  rw [this] at hj
  obtain ⟨e,he,hb,hc⟩:=(maskE_ok hr).2 j hj
  have he':=Array.mem_toList_iff.1 he
  have hlon:=hall e he' hb
  rcases hc with rfl | ⟨x,hx,hxj⟩
  ·exact hlon
  ·have hlt:=hedge i o ho e he' hb
   rw [List.getElem?_take,if_pos hlt] at hx
   have hi:i<ops.size:=(Array.getElem?_eq_some_iff.1 ho).1
   have hon:e.on<ops.size:=by omega
   refine ih e.on hlt ops[e.on] (Array.getElem?_eq_getElem hon) (hcl e.on _ (Array.getElem?_eq_getElem hon) hlon) j ?_
   simp only [List.getD,hx,Option.getD_some]
   exact hxj
def kindOf (o:Oper):Nat:=match o.op with
 | .move _ | .assign _ | .pick .. | .build .. | .load .. | .lookup .. | .nilCheck _ | .binOp .. | .unOp .. | .sliceToArrayPointer .. | .makeInterface .. | .makeFunc .. | .slice .. | .fieldAddr .. | .field .. | .indexAddr .. | .index .. | .extract .. =>0
 | .convert _ u _=>if scalT u then 0 else if bslT u&& !effD o.dst then 1 else 2
 | .alloc _ | .box .. | .buildSlice .. =>1
 | .call c=>match c.callee with
  | .builtin .len | .builtin .min | .builtin .max | .builtin .unsafeSliceData=>0
  |_=>2
 |_=>2
def looksM (o:Oper):Bool:=match o.op with
 | .load .. | .lookup .. | .convert .. | .call _=>true
 |_=>false
theorem a1_s {C:Cfg} {a:Act} {x:Operand} {f:Value→Option Value} {s s':AS} {v:Value} (h:a1 C a x f s=some (v,s')):s'=s∧ ∀s2,a1 C a x f s2=some (v,s2):=by
 unfold a1 at h ⊢
 split at h
 ·rename_i u hu
  split at h
  ·rename_i r hr
   cases h
   exact ⟨rfl,fun s2=>by simp_all⟩
  ·cases h
 ·cases h
theorem a2_s {C:Cfg} {a:Act} {x y:Operand} {f:Value→Value→Option Value} {s s':AS} {v:Value} (h:a2 C a x y f s=some (v,s')):s'=s∧ ∀s2,a2 C a x y f s2=some (v,s2):=by
 unfold a2 at h ⊢
 split at h
 ·rename_i u t hu ht
  split at h
  ·rename_i r hr
   cases h
   exact ⟨rfl,fun s2=>by simp_all⟩
  ·cases h
 ·cases h
theorem orFlat_s {C:Cfg} {P:Program} {a:Act} {o:Oper} {s s':AS} {v:Value} {r:AS→Option (Value × AS)} (hr: ∀v s',r s=some (v,s')→s'=s∧ ∀s2,r s2=some (v,s2)) (hn:r s=none→ ∀s2,r s2=none) (h:orFlat (r s) C P s a o=some (v,s')):s'=s∧ ∀s2,orFlat (r s2) C P s2 a o=some (v,s2):=by
 unfold orFlat at h ⊢
 split at h
 ·rename_i x hx
  cases h
  obtain ⟨h1,h2⟩:=hr v s' hx
  exact ⟨h1,fun s2=>by rw [h2 s2]⟩
 ·rename_i hx
  split at h
  ·rename_i u hu
   cases h
   exact ⟨rfl,fun s2=>by rw [hn hx s2]⟩
  ·cases h
theorem kind0_s {C:Cfg} {P:Program} {a:Act} {o:Oper} {s s':AS} {v:Value} (hk:kindOf o=0) (h:aop C P s a o=some (v,s')):s'=s∧(looksM o=false→ ∀s2,aop C P s2 a o=some (v,s2)):=by
 obtain ⟨dst,op,ty,pos,aft,gd⟩:=o
 cases op with
 |move x=>simp only [aop] at h ⊢;exact ⟨(a1_s h).1,fun _=>(a1_s h).2⟩
 |assign x=>simp only [aop] at h ⊢;exact ⟨(a1_s h).1,fun _=>(a1_s h).2⟩
 |pick c x y=>
  simp only [aop] at h ⊢
  split at h
  ·rename_i b hb
   exact ⟨(a1_s h).1,fun _=>(a1_s h).2⟩
  ·cases h
 |build t ps=>
  simp only [aop] at h ⊢
  split at h
  ·split at h
   ·cases h;exact ⟨rfl,fun _ s2=>by simp_all⟩
   ·cases h
  ·cases h
 |load t x=>simp only [aop] at h;exact ⟨(a1_s h).1,fun e=>by cases e⟩
 |nilCheck x=>simp only [aop] at h ⊢;exact ⟨(a1_s h).1,fun _=>(a1_s h).2⟩
 |sliceToArrayPointer t x=>simp only [aop] at h ⊢;exact ⟨(a1_s h).1,fun _=>(a1_s h).2⟩
 |makeInterface t x=>simp only [aop] at h ⊢;exact ⟨(a1_s h).1,fun _=>(a1_s h).2⟩
 |fieldAddr t x g=>simp only [aop] at h ⊢;exact ⟨(a1_s h).1,fun _=>(a1_s h).2⟩
 |field t x g=>simp only [aop] at h ⊢;exact ⟨(a1_s h).1,fun _=>(a1_s h).2⟩
 |indexAddr t x i=>simp only [aop] at h ⊢;exact ⟨(a2_s h).1,fun _=>(a2_s h).2⟩
 |extract x i=>simp only [aop] at h ⊢;exact ⟨(a1_s h).1,fun _=>(a1_s h).2⟩
 |index t x i=>
  simp only [aop] at h ⊢
  have:=orFlat_s (r:=fun s=>a2 C a x i (aindex2 C t) s) (fun v s' e=>a2_s e) (fun e s2=>by unfold a2 at*;split at e<;> (try split at e) <;>simp_all) h
  exact ⟨this.1,fun _=>this.2⟩
 |unOp b t x=>
  simp only [aop] at h ⊢
  have:=orFlat_s (r:=fun _=>none) (fun v s' e=>by cases e) (fun e s2=>rfl) h
  exact ⟨this.1,fun _=>this.2⟩
 |binOp b t x y yt=>
  simp only [aop] at h ⊢
  have:=orFlat_s (r:=fun s=>a2 C a x y (fbin2 C t b) s) (fun v s' e=>a2_s e) (fun e s2=>by unfold a2 at*;split at e<;> (try split at e) <;>simp_all) h
  exact ⟨this.1,fun _=>this.2⟩
 |slice t x l hh m=>
  simp only [aop] at h ⊢
  split at h
  ·rename_i q l' h' m' h1 h2 h3 h4
   have:=orFlat_s (r:=fun s=>match aslice2 C t q l' h' m' with |some r=>some (r,s)|none=>none) (fun v s' e=>by split at e<;>simp_all) (fun e s2=>by split at e<;>simp_all) h
   exact ⟨this.1,fun _ s2=>this.2 s2⟩
  ·cases h
 |makeFunc fn fs xs=>
  cases fn with
  |func g=>
   simp only [aop] at h ⊢
   split at h
   ·cases h;exact ⟨rfl,fun _ s2=>by simp_all⟩
   ·cases h
  |_=>simp only [aop] at h;split at h<;>cases h
 |lookup t x i ok=>
  simp only [aop] at h
  split at h
  ·unfold mop at h
   split at h<;>first | (cases h;done)|skip
   all_goals (try (rename_i e1 _;cases e1))
   all_goals first
    | (split at h<;>first | (cases h;exact ⟨rfl,fun e=>by cases e⟩)|cases h)
    |skip
  ·cases h
 |convert t u x=>
  have hsc:scalT u=true:=by
   simp only [kindOf] at hk
   split at hk
   ·assumption
   ·split at hk<;>cases hk
  simp only [aop,hsc,if_true] at h
  split at h
  ·rename_i q hq
   refine ⟨?_,fun e=>by cases e⟩
   unfold orFlat at h
   split at h
   ·rename_i r hr
    cases h
    split at hr
    ·cases hr;rfl
    ·cases hr
   ·split at h
    ·cases h;rfl
    ·cases h
  ·cases h
 |call c=>
  obtain ⟨callee,args,ats⟩:=c
  cases callee with
  |builtin b=>
   refine ⟨?_,fun e=>by cases e⟩
   simp only [aop] at h
   split at h
   ·rename_i vs hvs
    unfold orFlat at h
    split at h
    ·rename_i r hr
     cases h
     unfold abuiltin at hr
     split at hr<;>first
      | (simp [kindOf] at hk;done)
      | (split at hr<;>first | (cases hr;rfl)| (split at hr<;>first | (cases hr;rfl)| (split at hr<;>first | (cases hr;rfl)|cases hr)|cases hr)|cases hr)
      | (cases hr;done)
    ·split at h
     ·cases h;rfl
     ·cases h
   ·cases h
  |_=>simp [kindOf] at hk
 |_=>simp [kindOf] at hk
def leq (f:Value→Value→Bool):List Value→List Value→Bool
 | [], [] =>true
 |a::l,b::m=>f a b&&leq f l m
 |_,_=>false
def veq:Nat→Value→Value→Bool
 |0,_,_=>false
 |_+1, .bool a, .bool b=>a==b
 |_+1, .int k a, .int k' b=>decide (k=k')&&decide (a=b)
 |_+1, .string a, .string b=>decide (a=b)
 |_+1, .float k a, .float k' b=>decide (k=k')&&Nat.beq a b
 |_+1, .chan (some a), .chan (some b)=>Nat.beq a b
 |_+1, .nilFunc, .nilFunc=>true
 |_+1, .nilIface, .nilIface=>true
 |_+1, .pointer a, .pointer b=>decide (a=b)
 |_+1, .slice a n c, .slice b n' c'=>decide (a=b)&&decide (n=n')&&decide (c=c')
 |_+1, .map a, .map b=>decide (a=b)
 |n+1, .func f x y, .func f' x' y'=>decide (f=f')&&leq (veq n) x.toList x'.toList&&leq (veq n) y.toList y'.toList
 |n+1, .iface t v, .iface t' v'=>decide (t=t')&&veq n v v'
 |n+1, .agg a, .agg b=>leq (veq n) a.toList b.toList
 |n+1, .tuple a, .tuple b=>leq (veq n) a.toList b.toList
 |_+1,_,_=>false
theorem leq_ok {f:Value→Value→Bool} (h: ∀a b,f a b=true→a=b): ∀l m,leq f l m=true→l=m
 | [], [],_=>rfl
 |a::l,b::m,e=>by
  simp only [leq,Bool.and_eq_true] at e
  rw [h a b e.1,leq_ok h l m e.2]
 | [],_::_,e=>by cases e
 |_::_, [],e=>by cases e
theorem veq_ok: ∀n a b,veq n a b=true→a=b:=by
 intro n
 induction n with
 |zero=>intro a b e;cases e
 |succ n ih=>
  intro a b e
  have ha: ∀x y:Array Value,leq (veq n) x.toList y.toList=true→x=y:=fun x y e=>Array.ext' (leq_ok ih _ _ e)
  unfold veq at e
  split at e<;> (first | (have hn:=Nat.succ.inj ‹n+1=Nat.succ _›;subst hn)|skip) <;> (try simp only [Bool.and_eq_true,beq_iff_eq,decide_eq_true_eq] at e) <;>first
   | (cases e;done)
   | (obtain ⟨rfl,h1⟩:=e;rw [Nat.eq_of_beq_eq_true h1];done)
   | (rw [Nat.eq_of_beq_eq_true e];done)
   | (obtain ⟨⟨rfl,h1⟩,h2⟩:=e;rw [ha _ _ h1,ha _ _ h2];done)
   | (obtain ⟨rfl,h1⟩:=e;rw [ih _ _ h1];done)
   | (rw [ha _ _ e];done)
   | (simp_all;done)
end
end Go.Proofs.YtdcioacjhpnihaaGreatDoor
namespace Go.Proofs.YtdcioacjhpnihaaGreatDoor
open Go
noncomputable section
def aal (C:Cfg) (a:Act) (o:Oper) (k:Nat):Option (Obj × Value):=match o.op with
 | .alloc t=>match azero C t with
  |some z=>some (.cells z.cells t (0,0), .pointer (some ⟨k,0,none⟩))
  |none=>none
 | .box t x=>match aev C a x with
  |some v=>some (.cells v.cells t (0,0), .pointer (some ⟨k,0,none⟩))
  |none=>none
 | .buildSlice t len ps=>match aparts C a ps.toList,C.und t with
  |some l,some (.slice e)=>match C.size e,azero C e with
   |some z,some zv=>if len*z≤1048576∧(zrow zv (len*z)).all flat1=true then match Instr.fill (fun i=>some (i*z,z)) (zrow zv (len*z)) l with
     |some c=>some (.cells c e (0,0), .slice (some ⟨k,0,none⟩) len len)
     |none=>none else none
   |_,_=>none
  |_,_=>none
 | .convert t u x=>match aev C a x,C.und t,C.und u with
  |some (.string b),some .string,some (.slice e)=>match C.und e,C.size e with
   |some (.int .u8),some 1=>if b.size≤1048576 then some (.cells (byteCells b).toArray e (0,0), .slice (some ⟨k,0,some 0⟩) b.size b.size) else none
   |_,_=>none
  |_,_,_=>none
 |_=>none
theorem string_run {C:Cfg} {P:Program} (hC:C.ok P) {src dst e:TypeId} (hs:C.und src=some .string) (hd:C.und dst=some (.slice e)) (he:C.und e=some (.int .u8)) (hz:C.size e=some 1) (b:ByteArray) (w:World):
  ∃ob cap,b.size≤cap∧(b.size≤1048576→cap≤maxLen)∧(convert src dst (.string b)).run P w= .ok (.slice (some ⟨w.heap.size,0,none⟩) b.size cap) (w.drew.alloc ob)∧ ∀ι',objR P ι' (cap-b.size) (.cells (byteCells b).toArray e (0,0)) ob:=by
 obtain ⟨cap,hcap⟩: ∃cap,cap=grownCap w b.size 0 e:=⟨_,rfl⟩
 have hge:b.size≤cap:=hcap▸grownCap_ge ..
 have hsz: ((byteCells b).toArray++Array.replicate (cap-b.size) (Value.int .u8 0)).size=cap:=by simp [byteCells_length];omega
 refine ⟨.cells ((byteCells b).toArray++Array.replicate (cap-b.size) (.int .u8 0)) e (cap,cap+1),cap,hge,fun hb=>hcap▸grownCap_le_maxLen w b.size 0 e (by unfold maxLen;omega),?_,fun ι'=>⟨rfl,⟨fun i hi=>by rw [hsz] at hi;simp;omega, .inr ⟨rfl,Cfg.und_ok hC he⟩⟩,?_,fun j a b'=> ?_⟩⟩
 ·have hq: (Question.appendCap b.size 0 e).cut (w.tape w.drawn (.appendCap b.size 0 e))=cap:=hcap.symm
  have hbc: (b.data.map fun b=>Value.int .u8 b.toNat)=(byteCells b).toArray:=by unfold byteCells;apply Array.ext';simp
  have hfr:=freeze_new w.drew ((byteCells b).toArray++Array.replicate (cap-b.size) (.int .u8 0)) e cap
  simp only [convert,Sem.run_bind,Cfg.run_und hC hs,Cfg.run_und hC hd,Cfg.run_und hC he,Result.andThen,Conv.stringToBytes,run_choose,Question.forced,Bool.false_eq_true,if_false,hq,newRow,run_newObj,Sem.run_pure,markStringish,run_shape]
  have hsh: (World.shape? {w with heap:=w.heap.push (.cells ((b.data.map fun b=>Value.int .u8 b.toNat)++Array.replicate (cap-b.size) (.int .u8 0)) e),drawn:=w.drawn+1} w.heap.size)=some (e,cap):=by
   rw [hbc]
   simp only [World.shape?,Array.getElem?_push_size]
   rw [hsz]
  simp only [hsh,run_freeze]
  rw [hbc]
  exact congrArg (Result.ok _) hfr
 ·rw [hsz,Cfg.cellsOf hC hz]
  simp [byteCells_length]
  omega
 ·simp only [List.size_toArray] at a
  rw [Array.getElem_append_left (by simpa using a)]
  exact VR.flat1 _ (byteCells_flat b _ (by simp only [List.getElem_toArray];exact List.getElem_mem a))
theorem wpIn_val {F:Fence} {f:Nat} {P:Program} {o:Oper} {a:Act} {w w':World} {K:Act→World→Prop} {Q:Exit→Act→World→Prop} {v:Value} (hF: ∀g,F.fn g) (hd: ∀c,o.op≠ .defer c) (hr: (execOp a.eval o).run P w= .ok (.value v) w') (h:K (a.put o.dst v) w'):o.wpIn F f P a w K Q:=by
 unfold Oper.wpIn
 refine ⟨fun g _=>hF g,?_⟩
 rw [Oper.semAt_eq _ _ _ hd,hr]
 exact h
theorem aal_ok {F:Fence} {f:Nat} {P:Program} {C:Cfg} (hC:C.ok P) (hF: ∀g,F.fn g) {a:Act} {o:Oper} {k:Nat} {ob:Obj} {v:Value} (h:aal C a o k=some (ob,v)):AlT F f P C o a k ob v:=by
 obtain ⟨dst,op,ty,pos,aft,gd⟩:=o
 intro ι w m ac hr hk ho K Q hK
 have hl:ι.le (ι.add k w.heap.size 0):=Emb.le_add hk
 have hrow: ∀ (e:TypeId) (c c':Array Value),VRs ι c c'→objR P (ι.add k w.heap.size 0) 0 (.cells c e (0,0)) (.cells c' e (0,0)):=fun e c c' hc=>⟨rfl,⟨fun i _=>by simp, .inl rfl⟩,by simp [hc.1],fun i a b=>(hc.2 i a b).mono hl⟩
 have hnr: ∀ (e:TypeId) (c':Array Value),(newRow e c').run P w= .ok ⟨w.heap.size,0,none⟩ (w.alloc (.cells c' e)):=fun e c'=>by simp [newRow]
 unfold aal at h
 split at h
 ·rename_i t heq
  simp only at heq
  subst heq
  split at h
  ·rename_i z hz
   cases h
   obtain ⟨hz1,hz2⟩:=azero_ok hC hz w
   have hz3:VRs ι z.cells z.cells:=by have:=(VR.flat ι hz2).cells.s;simpa using this
   refine wpIn_val hF (by simp) (v:= .pointer (some ⟨w.heap.size,0,none⟩)) (w':=w.alloc (.cells z.cells t)) ?_ (hK _ _ 0 _ (.inl rfl) (hrow _ _ _ hz3) (.ptr (Emb.add_b ..)))
   simp [execOp,Instr.alloc,hz1,newVar,hnr]
  ·cases h
 ·rename_i t x heq
  simp only at heq
  subst heq
  split at h
  ·rename_i u hu
   cases h
   have hv:=ho x (by simp [Op.operands]) u hu
   have hc:VRs ι u.cells (ac.eval x).cells:=by have:=hv.cells.s;simpa using this
   refine wpIn_val hF (by simp) (v:= .pointer (some ⟨w.heap.size,0,none⟩)) (w':=w.alloc (.cells (ac.eval x).cells t)) ?_ (hK _ _ 0 _ (.inl rfl) (hrow _ _ _ hc) (.ptr (Emb.add_b ..)))
   simp [execOp,Instr.box,newVar,hnr]
  ·cases h
 ·rename_i t len ps heq
  simp only at heq
  subst heq
  split at h
  ·rename_i l e hps hd
   have hp:=aparts_ok (ac:=ac) (ι:=ι) ps.toList l (fun x hx=>ho x.2 (by simp only [Op.operands,List.mem_toArray,List.mem_map];exact ⟨x,hx,rfl⟩)) hps
   split at h
   ·rename_i z zv hz hzv
    obtain ⟨hz1,_⟩:=azero_ok hC hzv w
    split at h
    ·rename_i hq
     obtain ⟨h1,h3⟩:=hq
     split at h
     ·rename_i c hc
      cases h
      obtain ⟨c',hc',hv⟩:=fill_ok ι _ l (ps.map fun x=>(x.1,ac.eval x.2)).toList _ _ (by simpa using hp) (VRs.refl1 ι h3) c hc
      refine wpIn_val hF (by simp) (v:= .slice (some ⟨w.heap.size,0,none⟩) len len) (w':=w.alloc (.cells c' e)) ?_ (hK _ _ 0 _ (.inl rfl) (hrow _ _ _ hv) (.slX _ _ (Emb.add_b ..)))
      unfold zrow at hc'
      have h16: ¬ (len*z>2^24):=by omega
      have: (Instr.buildSlice t len (ps.map fun x=>(x.1,ac.eval x.2))).run P w= .ok (.slice (some ⟨w.heap.size,0,none⟩) len len) (w.alloc (.cells c' e)):=by
       by_cases h0:len*z=0
       ·have hc2:Instr.fill (fun i=>some (i*z,z)) ((Array.range (len*z)).map ((#[] :Array Value)[· % (#[] :Array Value).size]!)) (ps.map fun x=>(x.1,ac.eval x.2)).toList=some c':=by
         rw [←hc']
         congr 1
         rw [h0]
         simp
        unfold Instr.buildSlice
        simp only [Sem.run_bind,Cfg.run_und hC hd,Result.andThen,Cfg.run_size hC hz,h16,if_false]
        rw [if_pos h0]
        simp only [Sem.run_bind,Sem.run_pure,Result.andThen,hc2,hnr]
       ·unfold Instr.buildSlice
        simp only [Sem.run_bind,Cfg.run_und hC hd,Result.andThen,Cfg.run_size hC hz,h16,h0,if_false,hz1,Sem.run_pure,hc',hnr]
      simp only [execOp,Sem.run_bind]
      rw [this]
      rfl
     ·cases h
    ·cases h
   ·cases h
  ·cases h
 ·rename_i t u x heq
  simp only at heq
  subst heq
  split at h
  ·rename_i b e hb hs hd
   split at h
   ·rename_i he hz
    split at h
    rotate_left
    ·cases h
    rename_i hbs
    cases h
    have hv:=ho x (by simp [Op.operands]) _ hb
    have hx:ac.eval x= .string b:=by generalize ac.eval x=q at hv;cases hv;rfl
    obtain ⟨ob',cap,hge,hcm,h1,h2⟩:=string_run hC hs hd he hz b w
    refine wpIn_val hF (by simp) (v:= .slice (some ⟨w.heap.size,0,none⟩) b.size cap) (w':=w.drew.alloc ob') ?_ (hK _ _ (cap-b.size) _ (.inr rfl) (h2 _) ?_)
    ·simp [execOp,hx,h1]
    ·have:=VR.slG (ι:=ι.add k w.heap.size (cap-b.size)) (o:=0) b.size b.size (Emb.add_b ι k w.heap.size (cap-b.size)) (by
      have:=hcm hbs
      rw [Emb.add_x]
      omega)
     rw [Emb.add_x] at this
     rw [show b.size+ (cap-b.size)=cap by omega] at this
     exact this
   ·cases h
  ·cases h
 ·cases h
structure Rec where
 i:Nat
 o:Oper
 a:Act
 w:Bool
 kd:Nat
 v:Value
 s:AS
 ob:Obj
instance:Inhabited AS:=⟨⟨.leaf,0⟩⟩
instance:Inhabited Rec:=⟨⟨0,default,⟨#[], []⟩,false,0,undef,default, .deferred none⟩⟩
def actOf (a0:Act):List Rec→Act
 | [] =>a0
 |r::rs=>(actOf a0 rs).put r.o.dst r.v
def kOf:List Rec→Nat
 | [] =>0
 |r::rs=>kOf rs+ (if r.kd=2 then 1 else 0)
def gOf (s0:AS):List Rec→AS
 | [] =>s0
 |r::rs=>if r.kd=2 then r.s else gOf s0 rs
def sOf (s0:AS):List Rec→AS
 | [] =>s0
 |r::rs=>if r.kd=0 then sOf s0 rs else r.s
def readsOf (ops:Array Oper) (o:Oper):List Tmp:=
 (o.op.operands.toList.filterMap fun | .tmp t=>some t |_=>none)++ (match o.guard with
  |some (g,_)=>match ops[g]? with
   |some og=>og.dst.toList
   |none=> []
  |none=> [])
def pw (ops:Array Oper) (M:List Nat) (r q:Rec):Bool:=
 r.i !=q.i&& (match r.o.dst,q.o.dst with |some t,some u=>t !=u |_,_=>true)&&
 (match q.o.dst with |some t=> !(readsOf ops r.o).contains t || (M.getD r.i 0).testBit q.i |none=>true)&&
 (match r.o.dst with |some t=> !(readsOf ops q.o).contains t || (M.getD r.i 0).testBit q.i |none=>true)&&
 (r.kd !=2 ||q.kd==0 || (M.getD r.i 0).testBit q.i)
def step1 (C:Cfg) (P:Program) (xo:Oper→Act→AS→Option (Value × AS)) (ops:Array Oper) (base:Nat) (i:Nat) (a:Act) (g s:AS) (rs:List Rec):Option Rec:=
 match ops[i]? with
 |some o=>
  if Region.wanted o (yielded ops a.tmps) then
   (match kindOf o with
   |0=>match aop C P g a o with
    |some (v,_)=>some ⟨i,o,a,true,0,v,s, .deferred none⟩
    |none=>none
   |1=>match aal C a o (base+i) with
    |some (ob,v)=>match aput s (base+i) (some ob) with
     |some s'=>some ⟨i,o,a,true,1,v,s',ob⟩
     |none=>none
    |none=>none
   |_=>match xo o a s with
    |some (v,s')=>if base+ops.size≤s'.n∧(List.range ops.size).all (fun j=>(match ops[j]? with |some oj=>kindOf oj !=1 |none=>true)||rs.any (fun q=>q.i==j)|| (s'.h.get (base+j)).isNone)=true then some ⟨i,o,a,true,2,v,s', .deferred none⟩ else none
    |none=>none)
  else some ⟨i,o,a,false,0,undef,s, .deferred none⟩
 |none=>none
def rrun (C:Cfg) (P:Program) (xo:Oper→Act→AS→Option (Value × AS)) (ops:Array Oper) (M:List Nat) (base:Nat):List Nat→Act→AS→AS→List Rec→Option (Act × AS × List Rec)
 | [],a,_,s,rs=>some (a,s,rs)
 |i::sq,a,g,s,rs=>match step1 C P xo ops base i a g s rs with
  |some r=>if rs.all (pw ops M r) then rrun C P xo ops M base sq (a.put r.o.dst r.v) (if r.kd=2 then r.s else g) r.s (r::rs) else none
  |none=>none
def stays (C:Cfg) (P:Program) (M:List Nat) (effs:List (Nat × Nat)) (gs:List AS) (r:Rec):Bool:=
 !(r.kd==0&&r.w&&looksM r.o)|| (gs.zipIdx.all fun (g,k)=> !(effs.all fun (e,q)=>(!(M.getD r.i 0).testBit e ||decide (q<k))&& (!(M.getD e 0).testBit r.i ||decide (k≤q)))|| (match aop C P g r.a r.o with
  |some (v,_)=>veq 8 v r.v
  |none=>false))
def effsOf:List Rec→List (Nat × Nat)
 | [] => []
 |r::rs=>if r.kd=2 then effsOf rs++ [(r.i,kOf rs)] else effsOf rs
def gsOf (s0:AS):List Rec→List AS
 | [] => [s0]
 |r::rs=>if r.kd=2 then gsOf s0 rs++ [r.s] else gsOf s0 rs
def mkSeq (ops:List Oper) (M:List Nat):Nat→List Nat→Nat→List Nat
 |_,pend,0=>pend
 |i,pend,n+1=>match ops[i]? with
  |some o=>match kindOf o with
   |1=>mkSeq ops M (i+1) (pend++ [i]) n
   |0=>if pend.any (fun j=>(M.getD i 0).testBit j) then mkSeq ops M (i+1) (pend++ [i]) n else i::mkSeq ops M (i+1) pend n
   |_=>(pend.filter fun j=>(M.getD i 0).testBit j)++ (i::mkSeq ops M (i+1) (pend.filter fun j=> !(M.getD i 0).testBit j) n)
  |none=>pend
def xDraw (C:Cfg) (P:Program) (xo:Oper→Act→AS→Option (Value × AS)) (ops:Array Oper) (a:Act) (s:AS):Option (Act × AS):=
 match masks ops.toList [] with
 |some M=>match rrun C P xo ops M s.n (mkSeq ops.toList M 0 [] ops.size) a ⟨s.h,s.n+ops.size⟩ ⟨s.h,s.n+ops.size⟩ [] with
  |some (a',s',rs)=>if (List.range ops.size).all (fun i=>rs.any (fun q=>q.i==i))=true∧rs.all (stays C P M (effsOf rs) (gsOf ⟨s.h,s.n+ops.size⟩ rs))=true then some (a',s') else none
  |none=>none
 |none=>none
end
end Go.Proofs.YtdcioacjhpnihaaGreatDoor
namespace Go.Proofs.YtdcioacjhpnihaaGreatDoor
open Go
noncomputable section
def has (rs:List Rec) (i:Nat):Bool:=rs.any (fun q=>q.i==i)
def rc:List Rec→Nat→Rec
 | [],_=>default
 |r::rs,i=>if r.i=i then r else rc rs i
def tl:List Rec→Nat→List Rec
 | [],_=> []
 |r::rs,i=>if r.i=i then rs else tl rs i
def gAt (s0:AS):List Rec→Nat→AS
 | [],_=>s0
 |r::rs,k=>if r.kd=2∧kOf rs+1≤k then r.s else gAt s0 rs k
def hiAt (s0:AS):List Rec→Nat→AS
 | [],_=>s0
 |r::rs,k=>if r.kd=2∧kOf rs=k then sOf s0 rs else hiAt s0 rs k
def Facts (C:Cfg) (P:Program) (xo:Oper→Act→AS→Option (Value × AS)) (ops:Array Oper) (base:Nat) (s0:AS) (a0:Act) (r:Rec) (rs:List Rec):Prop:=
 ops[r.i]? =some r.o∧r.a=actOf a0 rs∧r.w=Region.wanted r.o (yielded ops r.a.tmps)∧
 ((r.w=false∧r.kd=0∧r.v=undef)∨(r.w=true∧r.kd=0∧kindOf r.o=0∧ ∃x,aop C P (gOf s0 rs) r.a r.o=some (r.v,x))∨
  (r.w=true∧r.kd=1∧kindOf r.o=1∧aal C r.a r.o (base+r.i)=some (r.ob,r.v)∧aput (sOf s0 rs) (base+r.i) (some r.ob)=some r.s)∨
  (r.w=true∧r.kd=2∧xo r.o r.a (sOf s0 rs)=some (r.v,r.s)∧base+ops.size≤r.s.n∧ ∀j oj,ops[j]? =some oj→kindOf oj=1→has rs j=false→r.s.h.get (base+j)=none))
inductive Run (C:Cfg) (P:Program) (xo:Oper→Act→AS→Option (Value × AS)) (ops:Array Oper) (M:List Nat) (base:Nat) (s0:AS) (a0:Act):List Rec→Prop where
 |nil:Run C P xo ops M base s0 a0 []
 |cons {r:Rec} {rs:List Rec}:Run C P xo ops M base s0 a0 rs→rs.all (pw ops M r)=true→Facts C P xo ops base s0 a0 r rs→Run C P xo ops M base s0 a0 (r::rs)
section
variable {C:Cfg} {P:Program} {xo:Oper→Act→AS→Option (Value × AS)} {ops:Array Oper} {M:List Nat} {base:Nat} {s0:AS} {a0:Act}
theorem step1_ok {i:Nat} {a:Act} {g s:AS} {rs:List Rec} {r:Rec} (h:step1 C P xo ops base i a g s rs=some r) (ha:a=actOf a0 rs) (hg:g=gOf s0 rs) (hs:s=sOf s0 rs):
  Facts C P xo ops base s0 a0 r rs∧r.s=sOf s0 (r::rs):=by
 subst ha hg hs
 unfold step1 at h
 split at h
 ·rename_i o ho
  split at h
  ·rename_i hw
   split at h
   ·rename_i hk
    split at h
    ·rename_i v x hv
     cases h
     exact ⟨⟨ho,rfl,hw.symm, .inr (.inl ⟨rfl,rfl,hk,x,hv⟩)⟩,by simp [sOf]⟩
    ·cases h
   ·rename_i hk
    split at h
    ·rename_i ob v hv
     split at h
     ·rename_i s' hs'
      cases h
      exact ⟨⟨ho,rfl,hw.symm, .inr (.inr (.inl ⟨rfl,rfl,hk,hv,hs'⟩))⟩,by simp [sOf]⟩
     ·cases h
    ·cases h
   ·split at h
    ·rename_i v s' hv
     split at h
     ·rename_i hq
      cases h
      refine ⟨⟨ho,rfl,hw.symm, .inr (.inr (.inr ⟨rfl,rfl,hv,hq.1,fun j oj hj hkj hn=> ?_⟩))⟩,by simp [sOf]⟩
      have hjl:=(Array.getElem?_eq_some_iff.1 hj).1
      have:=List.all_eq_true.1 hq.2 j (List.mem_range.2 hjl)
      rw [hj] at this
      simp only [hkj,bne_self_eq_false,Bool.false_or,Bool.or_eq_true] at this
      rcases this with h1 |h1
      ·unfold has at hn;rw [hn] at h1;cases h1
      ·exact Option.isNone_iff_eq_none.1 h1
     ·cases h
    ·cases h
  ·rename_i hw
   cases h
   exact ⟨⟨ho,rfl,by simpa using hw, .inl ⟨rfl,rfl,rfl⟩⟩,by simp [sOf]⟩
 ·cases h
theorem rrun_ok: ∀ (sq:List Nat) (a:Act) (g s:AS) (rs:List Rec) {a':Act} {s':AS} {rs':List Rec},rrun C P xo ops M base sq a g s rs=some (a',s',rs')→Run C P xo ops M base s0 a0 rs→a=actOf a0 rs→g=gOf s0 rs→s=sOf s0 rs→
  Run C P xo ops M base s0 a0 rs'∧a'=actOf a0 rs'∧s'=sOf s0 rs'
 | [],a,g,s,rs,a',s',rs',h,hR,ha,hg,hs=>by
  cases h
  exact ⟨hR,ha,hs⟩
 |i::sq,a,g,s,rs,a',s',rs',h,hR,ha,hg,hs=>by
  unfold rrun at h
  split at h
  ·rename_i r hr
   obtain ⟨h1,h2⟩:=step1_ok hr ha hg hs
   split at h
   ·rename_i hp
    refine rrun_ok sq _ _ _ (r::rs) h (.cons hR hp h1) (by rw [ha];rfl) ?_ h2
    simp only [gOf]
    split
    ·rfl
    ·exact hg
   ·cases h
  ·cases h
theorem pw_ne {r q:Rec} (h:pw ops M r q=true):r.i≠q.i:=by
 simp only [pw,Bool.and_eq_true,bne_iff_ne] at h
 exact h.1.1.1.1
theorem Run.ne {rs:List Rec} {r:Rec} (h:Run C P xo ops M base s0 a0 (r::rs)) {i:Nat} (hi:has rs i=true):r.i≠i:=by
 cases h with
 |cons _ hp _=>
  obtain ⟨q,hq,e⟩:=List.any_eq_true.1 hi
  rw [beq_iff_eq] at e
  rw [←e]
  exact pw_ne (List.all_eq_true.1 hp q hq)
theorem has_cons (r:Rec) (rs:List Rec) (i:Nat):has (r::rs) i=(r.i==i ||has rs i):=rfl
theorem rc_mem: ∀ {rs:List Rec} {i:Nat},has rs i=true→rc rs i∈rs∧(rc rs i).i=i
 |r::rs,i,h=>by
  unfold rc
  by_cases e:r.i=i
  ·simp [e]
  ·rw [if_neg e]
   rw [has_cons] at h
   have:has rs i=true:=by simpa [e] using h
   exact ⟨List.mem_cons_of_mem _ (rc_mem this).1,(rc_mem this).2⟩
theorem kOf_tl: ∀ {rs:List Rec} {i:Nat},has rs i=true→kOf (tl rs i)+ (if (rc rs i).kd=2 then 1 else 0)≤kOf rs
 |r::rs,i,h=>by
  unfold tl rc
  by_cases e:r.i=i
  ·simp [e,kOf]
  ·rw [if_neg e,if_neg e]
   rw [has_cons] at h
   have:has rs i=true:=by simpa [e] using h
   have:=kOf_tl this
   simp only [kOf]
   omega
theorem Run.facts: ∀ {rs:List Rec},Run C P xo ops M base s0 a0 rs→ ∀ {i:Nat},has rs i=true→Facts C P xo ops base s0 a0 (rc rs i) (tl rs i)∧Run C P xo ops M base s0 a0 (tl rs i)∧(tl rs i).all (pw ops M (rc rs i))=true
 |r::rs,h,i,hi=>by
  cases h with
  |cons hR hp hf=>
   unfold rc tl
   by_cases e:r.i=i
   ·rw [if_pos e,if_pos e]
    exact ⟨hf,hR,hp⟩
   ·rw [if_neg e,if_neg e]
    rw [has_cons] at hi
    exact hR.facts (by simpa [e] using hi)
theorem Run.two: ∀ {rs:List Rec},Run C P xo ops M base s0 a0 rs→ ∀ {i j:Nat},has rs i=true→has rs j=true→i≠j→
  (has (tl rs i) j=true∧pw ops M (rc rs i) (rc rs j)=true∧kOf (tl rs j)+ (if (rc rs j).kd=2 then 1 else 0)≤kOf (tl rs i)∧rc (tl rs i) j=rc rs j)∨
  (has (tl rs j) i=true∧pw ops M (rc rs j) (rc rs i)=true∧kOf (tl rs i)+ (if (rc rs i).kd=2 then 1 else 0)≤kOf (tl rs j)∧rc (tl rs j) i=rc rs i)
 |r::rs,h,i,j,hi,hj,hij=>by
  rw [has_cons] at hi hj
  have hp:rs.all (pw ops M r)=true:=by cases h with |cons _ hp _=>exact hp
  have hR:Run C P xo ops M base s0 a0 rs:=by cases h with |cons hR _ _=>exact hR
  by_cases e:r.i=i
  ·have e2:r.i≠j:=fun e'=>hij (e.symm.trans e')
   have hj':has rs j=true:=by simpa [e2] using hj
   left
   simp only [tl,rc,if_pos e,if_neg e2]
   exact ⟨hj',List.all_eq_true.1 hp _ (rc_mem hj').1,kOf_tl hj',trivial⟩
  ·by_cases e2:r.i=j
   ·have hi':has rs i=true:=by simpa [e] using hi
    right
    simp only [tl,rc,if_pos e2,if_neg e]
    exact ⟨hi',List.all_eq_true.1 hp _ (rc_mem hi').1,kOf_tl hi',trivial⟩
   ·have hi':has rs i=true:=by simpa [e] using hi
    have hj':has rs j=true:=by simpa [e2] using hj
    simp only [tl,rc,if_neg e,if_neg e2]
    exact hR.two hi' hj' hij
theorem not_both {rs:List Rec} (h:Run C P xo ops M base s0 a0 rs): ∀ {i j:Nat},has rs i=true→has rs j=true→i≠j→has (tl rs i) j=true→has (tl rs j) i=false:=by
 induction h with
 |nil=>intro i j hi;cases hi
 | @cons r rs hR hp hf ih=>
  intro i j hi hj hij h1
  have hc:Run C P xo ops M base s0 a0 (r::rs):= .cons hR hp hf
  rw [has_cons] at hi hj
  by_cases e:r.i=i
  ·have e2:r.i≠j:=fun e'=>hij (e.symm.trans e')
   simp only [tl,if_neg e2]
   cases hh:has (tl rs j) i with
   |false=>rfl
   |true=>
    have hsub: ∀ (rs:List Rec) (j i:Nat),has (tl rs j) i=true→has rs i=true:=by
     intro rs
     induction rs with
     |nil=>intro j i h;exact h
     |cons q qs ih=>
      intro j i h
      unfold tl at h
      rw [has_cons]
      split at h
      ·simp [h]
      ·simp [ih j i h]
    exact absurd e (hc.ne (hsub rs j i hh))
  ·by_cases e2:r.i=j
   ·simp only [tl,if_neg e] at h1
    exfalso
    have hsub: ∀ (rs:List Rec) (j i:Nat),has (tl rs j) i=true→has rs i=true:=by
     intro rs
     induction rs with
     |nil=>intro j i h;exact h
     |cons q qs ih=>
      intro j i h
      unfold tl at h
      rw [has_cons]
      split at h
      ·simp [h]
      ·simp [ih j i h]
    exact absurd e2 (hc.ne (hsub rs i j h1))
   ·simp only [tl,if_neg e,if_neg e2] at h1 ⊢
    exact ih (by simpa [e] using hi) (by simpa [e2] using hj) hij h1
theorem kOf_eff: ∀ (rs:List Rec) (_:Run C P xo ops M base s0 a0 rs) (k:Nat),k<kOf rs→ ∃i,has rs i=true∧(rc rs i).kd=2∧kOf (tl rs i)=k
 | [],_,k,h=>absurd h (Nat.not_lt_zero _)
 |r::rs,hr,k,h=>by
  have hR:Run C P xo ops M base s0 a0 rs:=by cases hr with |cons hR _ _=>exact hR
  simp only [kOf] at h
  by_cases hk:k<kOf rs
  ·obtain ⟨i,h1,h2,h3⟩:=kOf_eff rs hR k hk
   have:=hr.ne h1
   exact ⟨i,by rw [has_cons,h1];simp,by simpa [rc,this] using h2,by simpa [tl,this] using h3⟩
  ·split at h
   ·rename_i hkd
    exact ⟨r.i,by simp [has_cons],by simp [rc,hkd],by simp [tl];omega⟩
   ·omega
theorem gAt_top: ∀ (rs:List Rec) (k:Nat),kOf rs≤k→gAt s0 rs k=gOf s0 rs
 | [],_,_=>rfl
 |r::rs,k,h=>by
  simp only [kOf] at h
  simp only [gAt,gOf]
  by_cases e:r.kd=2
  ·simp only [e,if_true] at h ⊢
   simp [h]
  ·simp only [e,if_false,false_and,Nat.add_zero] at h ⊢
   exact gAt_top rs k h
theorem gAt_tl: ∀ (rs:List Rec) (i:Nat),has rs i=true→ ∀k,k≤kOf (tl rs i)→gAt s0 rs k=gAt s0 (tl rs i) k
 |r::rs,i,h,k,hk=>by
  by_cases e:r.i=i
  ·simp only [tl,if_pos e] at hk ⊢
   simp only [gAt]
   rw [if_neg (by omega)]
  ·rw [has_cons] at h
   have h':has rs i=true:=by simpa [e] using h
   simp only [tl,if_neg e] at hk ⊢
   have:=kOf_tl h'
   simp only [gAt]
   rw [if_neg (by omega)]
   exact gAt_tl rs i h' k hk
theorem gAt_eff: ∀ (rs:List Rec) (i:Nat),has rs i=true→(rc rs i).kd=2→gAt s0 rs (kOf (tl rs i)+1)=(rc rs i).s
 |r::rs,i,h,hk=>by
  by_cases e:r.i=i
  ·simp only [tl,rc,if_pos e] at hk ⊢
   simp [gAt,hk]
  ·rw [has_cons] at h
   have h':has rs i=true:=by simpa [e] using h
   simp only [tl,rc,if_neg e] at hk ⊢
   have:=kOf_tl h'
   rw [hk,if_pos rfl] at this
   simp only [gAt]
   rw [if_neg (by omega)]
   exact gAt_eff rs i h' hk
theorem hiAt_eff: ∀ (rs:List Rec) (i:Nat),has rs i=true→(rc rs i).kd=2→hiAt s0 rs (kOf (tl rs i))=sOf s0 (tl rs i)
 |r::rs,i,h,hk=>by
  by_cases e:r.i=i
  ·simp only [tl,rc,if_pos e] at hk ⊢
   simp [hiAt,hk]
  ·rw [has_cons] at h
   have h':has rs i=true:=by simpa [e] using h
   simp only [tl,rc,if_neg e] at hk ⊢
   have:=kOf_tl h'
   rw [hk,if_pos rfl] at this
   simp only [hiAt]
   rw [if_neg (by omega)]
   exact hiAt_eff rs i h' hk
end
end
end Go.Proofs.YtdcioacjhpnihaaGreatDoor
namespace Go.Proofs.YtdcioacjhpnihaaGreatDoor
open Go
noncomputable section
section
variable {C:Cfg} {P:Program} {xo:Oper→Act→AS→Option (Value × AS)} {ops:Array Oper} {M:List Nat} {base:Nat} {s0:AS} {a0:Act}
theorem actOf_size: ∀ (rs:List Rec),(actOf a0 rs).tmps.size=a0.tmps.size
 | [] =>rfl
 |r::rs=>by simp only [actOf];rw [put_size];exact actOf_size rs
theorem actOf_defers: ∀ (rs:List Rec),(actOf a0 rs).defers=a0.defers
 | [] =>rfl
 |r::rs=>by simp only [actOf];rw [put_defers];exact actOf_defers rs
theorem actOf_not: ∀ (rs:List Rec) (t:Tmp),(∀i,has rs i=true→(rc rs i).o.dst≠some t)→(∀q∈rs,q.o.dst≠some t)→(actOf a0 rs).tmps[t]? =a0.tmps[t]?
 | [],_,_,_=>rfl
 |r::rs,t,h,h2=>by
  have ih:=actOf_not rs t (fun i hi=>h2 _ (List.mem_cons_of_mem _ (rc_mem hi).1)) (fun q hq=>h2 q (List.mem_cons_of_mem _ hq))
  rw [←ih]
  have:=h2 r (by simp)
  simp only [actOf]
  cases hd:r.o.dst with
  |none=>rfl
  |some d=>
   simp only [Act.put_tmps,Array.getElem?_setIfInBounds]
   rw [if_neg (fun e=>this (by rw [hd,e]))]
theorem pw_dst {r q:Rec} (h:pw ops M r q=true) {t:Tmp} (h1:r.o.dst=some t) (h2:q.o.dst=some t):False:=by
 simp only [pw,Bool.and_eq_true,h1,h2] at h
 simp at h
theorem actOf_yes: ∀ (rs:List Rec),Run C P xo ops M base s0 a0 rs→ ∀ (i:Nat) (t:Tmp),has rs i=true→(rc rs i).o.dst=some t→t<a0.tmps.size→(actOf a0 rs).tmps[t]? =some (rc rs i).v
 |r::rs,h,i,t,hi,hd,ht=>by
  have hR:Run C P xo ops M base s0 a0 rs:=by cases h with |cons hR _ _=>exact hR
  have hp:rs.all (pw ops M r)=true:=by cases h with |cons _ hp _=>exact hp
  simp only [actOf]
  by_cases e:r.i=i
  ·simp only [rc,if_pos e] at hd ⊢
   rw [hd]
   simp only [Act.put_tmps,Array.getElem?_setIfInBounds]
   simp [actOf_size,ht]
  ·rw [has_cons] at hi
   have hi':has rs i=true:=by simpa [e] using hi
   simp only [rc,if_neg e] at hd ⊢
   have ih:=actOf_yes rs hR i t hi' hd ht
   have hpw:=List.all_eq_true.1 hp _ (rc_mem hi').1
   cases hd2:r.o.dst with
   |none=>exact ih
   |some d=>
    simp only [Act.put_tmps,Array.getElem?_setIfInBounds]
    rw [if_neg (fun e:d=t=>pw_dst hpw (by rw [hd2,e]) hd)]
    exact ih
theorem tl_has: ∀ (rs:List Rec) (j i:Nat),has (tl rs j) i=true→has rs i=true
 | [],_,_,h=>h
 |q::qs,j,i,h=>by
  unfold tl at h
  rw [has_cons]
  split at h
  ·simp [h]
  ·simp [tl_has qs j i h]
theorem sOf_get: ∀ (rs:List Rec),Run C P xo ops M base s0 a0 rs→(sOf s0 rs).n=(gOf s0 rs).n∧(∀q,(∀i,has rs i=true→(rc rs i).kd=1→kOf (tl rs i)=kOf rs→q≠base+i)→(sOf s0 rs).mem.get q=(gOf s0 rs).mem.get q)∧
  (∀i,has rs i=true→(rc rs i).kd=1→kOf (tl rs i)=kOf rs→(sOf s0 rs).mem.get (base+i)=some (rc rs i).ob)
 | [],_=>⟨rfl,fun _ _=>rfl,fun i h=>by cases h⟩
 |r::rs,h=>by
  have hR:Run C P xo ops M base s0 a0 rs:=by cases h with |cons hR _ _=>exact hR
  have hf:Facts C P xo ops base s0 a0 r rs:=by cases h with |cons _ _ hf=>exact hf
  obtain ⟨i1,i2,i3⟩:=sOf_get rs hR
  obtain ⟨ho,ha,hw,hc⟩:=hf
  have hne:=fun i (hi:has rs i=true)=>h.ne hi
  have zero:r.kd=0→(sOf s0 (r::rs)).n=(gOf s0 (r::rs)).n∧(∀q,(∀i,has (r::rs) i=true→(rc (r::rs) i).kd=1→kOf (tl (r::rs) i)=kOf (r::rs)→q≠base+i)→(sOf s0 (r::rs)).mem.get q=(gOf s0 (r::rs)).mem.get q)∧
    (∀i,has (r::rs) i=true→(rc (r::rs) i).kd=1→kOf (tl (r::rs) i)=kOf (r::rs)→(sOf s0 (r::rs)).mem.get (base+i)=some (rc (r::rs) i).ob):=fun e=>by
   have k1:kOf (r::rs)=kOf rs:=by simp [kOf,e]
   have g1:gOf s0 (r::rs)=gOf s0 rs:=by simp [gOf,e]
   have s1:sOf s0 (r::rs)=sOf s0 rs:=by simp [sOf,e]
   rw [g1,s1,k1]
   refine ⟨i1,fun q hq=>i2 q fun i hi hk hkk=>hq i (by rw [has_cons,hi];simp) (by simpa [rc,hne i hi] using hk) (by simpa [tl,hne i hi] using hkk),fun i hi hk hkk=> ?_⟩
   by_cases e2:r.i=i
   ·simp only [rc,if_pos e2] at hk;omega
   ·rw [has_cons] at hi
    simp only [rc,tl,if_neg e2] at hk hkk ⊢
    exact i3 i (by simpa [e2] using hi) hk hkk
  rcases hc with ⟨_,e,_⟩| ⟨_,e,_⟩| ⟨_,e,_,_,hput⟩| ⟨_,e,_⟩
  ·exact zero e
  ·exact zero e
  ·have k1:kOf (r::rs)=kOf rs:=by simp [kOf,e]
   have g1:gOf s0 (r::rs)=gOf s0 rs:=by simp [gOf,e]
   have s1:sOf s0 (r::rs)=r.s:=by simp [sOf,e]
   have hget:=aput_get hput
   rw [g1,s1,k1]
   refine ⟨by rw [aput_n hput];exact i1,fun q hq=> ?_,fun i hi hk hkk=> ?_⟩
   ·have hqr:q≠base+r.i:=hq r.i (by simp [has_cons]) (by simp [rc,e]) (by simp [tl])
    rw [hget,if_neg hqr]
    exact i2 q fun i hi hk hkk=>hq i (by rw [has_cons,hi];simp) (by simpa [rc,hne i hi] using hk) (by simpa [tl,hne i hi] using hkk)
   ·by_cases e2:r.i=i
    ·simp only [rc,if_pos e2]
     rw [←e2,hget,if_pos rfl]
    ·rw [has_cons] at hi
     simp only [rc,tl,if_neg e2] at hk hkk ⊢
     rw [hget,if_neg (by omega)]
     exact i3 i (by simpa [e2] using hi) hk hkk
  ·have k1:kOf (r::rs)=kOf rs+1:=by simp [kOf,e]
   have g1:gOf s0 (r::rs)=r.s:=by simp [gOf,e]
   have s1:sOf s0 (r::rs)=r.s:=by simp [sOf,e]
   rw [g1,s1,k1]
   refine ⟨rfl,fun q _=>rfl,fun i hi hk hkk=> ?_⟩
   by_cases e2:r.i=i
   ·simp only [rc,if_pos e2] at hk;omega
   ·rw [has_cons] at hi
    simp only [tl,if_neg e2] at hkk
    have:=kOf_tl (rs:=rs) (i:=i) (by simpa [e2] using hi)
    omega
theorem effsOf_rec: ∀ (rs:List Rec) (x:Nat × Nat),Run C P xo ops M base s0 a0 rs→x∈effsOf rs→has rs x.1=true∧(rc rs x.1).kd=2∧kOf (tl rs x.1)=x.2
 |r::rs,x,h,hx=>by
  have hR:Run C P xo ops M base s0 a0 rs:=by cases h with |cons hR _ _=>exact hR
  have old:x∈effsOf rs→has (r::rs) x.1=true∧(rc (r::rs) x.1).kd=2∧kOf (tl (r::rs) x.1)=x.2:=fun hx=>by
   obtain ⟨h1,h2,h3⟩:=effsOf_rec rs x hR hx
   have:=h.ne h1
   exact ⟨by rw [has_cons,h1];simp,by simpa [rc,this] using h2,by simpa [tl,this] using h3⟩
  unfold effsOf at hx
  split at hx
  ·rename_i hk
   rcases List.mem_append.1 hx with hx |hx
   ·exact old hx
   ·rw [List.mem_singleton] at hx
    subst hx
    exact ⟨by simp [has_cons],by simp [rc,hk],by simp [tl]⟩
  ·exact old hx
theorem gsOf_len: ∀ (rs:List Rec),(gsOf s0 rs).length=kOf rs+1
 | [] =>rfl
 |r::rs=>by
  unfold gsOf kOf
  split
  ·simp [gsOf_len rs]
  ·simpa using gsOf_len rs
theorem gsOf_get: ∀ (rs:List Rec) (k:Nat),k≤kOf rs→(gsOf s0 rs)[k]? =some (gAt s0 rs k)
 | [],k,h=>by
  simp only [kOf] at h
  have:k=0:=by omega
  subst this
  rfl
 |r::rs,k,h=>by
  have hl:=gsOf_len (s0:=s0) rs
  unfold gsOf gAt
  simp only [kOf] at h
  by_cases e:r.kd=2
  ·simp only [e,if_true,true_and] at h ⊢
   by_cases hk:kOf rs+1≤k
   ·rw [if_pos hk,List.getElem?_append_right (by omega),show k- (gsOf s0 rs).length=0 by omega]
    rfl
   ·rw [if_neg hk,List.getElem?_append_left (by omega)]
    exact gsOf_get rs k (by omega)
  ·simp only [e,if_false,false_and,Nat.add_zero] at h ⊢
   exact gsOf_get rs k h
theorem mem_reads {o:Oper} {t:Tmp}:t∈readsOf ops o↔ (.tmp t∈o.op.operands∨ ∃g b,o.guard=some (g,b)∧ ∃og:Oper,ops[g]? =some og∧og.dst=some t):=by
 unfold readsOf
 rw [List.mem_append,List.mem_filterMap]
 refine or_congr ⟨?_,?_⟩ ⟨?_,?_⟩
 ·rintro ⟨x,hx,e⟩
  split at e
  ·cases e;exact Array.mem_toList_iff.1 hx
  ·cases e
 ·intro h
  exact ⟨.tmp t,Array.mem_toList_iff.2 h,rfl⟩
 ·intro h
  split at h
  ·rename_i g b hg
   split at h
   ·rename_i og hog
    exact ⟨g,b,hg,og,hog,by simpa using h⟩
   ·cases h
  ·cases h
 ·rintro ⟨g,b,hg,og,hog,hd⟩
  rw [hg]
  simp only [hog,hd,Option.toList_some,List.mem_singleton]
theorem pw_rw {r q:Rec} (h:pw ops M r q=true) {t:Tmp} (h1:q.o.dst=some t) (h2:t∈readsOf ops r.o): (M.getD r.i 0).testBit q.i=true:=by
 simp only [pw,Bool.and_eq_true,h1] at h
 have:=h.1.1.2
 simpa [h2] using this
theorem pw_wr {r q:Rec} (h:pw ops M r q=true) {t:Tmp} (h1:r.o.dst=some t) (h2:t∈readsOf ops q.o): (M.getD r.i 0).testBit q.i=true:=by
 simp only [pw,Bool.and_eq_true,h1] at h
 have:=h.1.2
 simpa [h2] using this
theorem pw_eff {r q:Rec} (h:pw ops M r q=true) (h1:r.kd=2) (h2:q.kd≠0): (M.getD r.i 0).testBit q.i=true:=by
 simp only [pw,Bool.and_eq_true,h1] at h
 have:=h.2
 simpa [h2] using this
end
end
end Go.Proofs.YtdcioacjhpnihaaGreatDoor
namespace Go.Proofs.YtdcioacjhpnihaaGreatDoor
open Go
noncomputable section
theorem rc_default {rs:List Rec} {i:Nat} (h:has rs i=false):rc rs i=default:=by
 induction rs with
 |nil=>rfl
 |cons r rs ih=>
  rw [has_cons,Bool.or_eq_false_iff,beq_eq_false_iff_ne] at h
  simp only [rc,if_neg h.1]
  exact ih h.2
section
variable {F:Fence} {f:Nat} {C:Cfg} {P:Program} {xo:Oper→Act→AS→Option (Value × AS)} {ops:Array Oper} {M:List Nat} {base:Nat} {s0:AS} {a0:Act} {rs:List Rec}
set_option maxHeartbeats 1000000 in
theorem reg_of_run (hC:C.ok P) (hF: ∀g,F.fn g) (hxo: ∀o a s v s',xo o a s=some (v,s')→OpT F f P C o a s.mem v s'.mem) (hM:masks ops.toList [] =some M) (hR:Run C P xo ops M base s0 a0 rs)
  (hall: ∀i,i<ops.size→has rs i=true) (hst:rs.all (stays C P M (effsOf rs) (gsOf s0 rs))=true) (hn0:s0.n=base+ops.size) (hg0: ∀q,base≤q→s0.mem.get q=none):
  Reg F f P C ops a0 base (kOf rs) (fun i=>(rc rs i).v) (fun i=>(rc rs i).kd) (fun i=>kOf (tl rs i)) (fun k=>(gAt s0 rs k).mem) (fun k=>(hiAt s0 rs k).mem) (fun i=>(rc rs i).ob) (fun i=>(rc rs i).w) (fun i=>actOf a0 (tl rs i)) (fun i j=>(M.getD i 0).testBit j):=by
 obtain ⟨hedge,hdep⟩:=masks_dep hM
 have lt_of: ∀i (o:Oper),ops[i]? =some o→i<ops.size:=fun i o h=>(Array.getElem?_eq_some_iff.1 h).1
 have fct: ∀i,i<ops.size→Facts C P xo ops base s0 a0 (rc rs i) (tl rs i):=fun i hi=>(hR.facts (hall i hi)).1
 have hid: ∀i,i<ops.size→(rc rs i).i=i:=fun i hi=>(rc_mem (hall i hi)).2
 have hop: ∀i (o:Oper),ops[i]? =some o→(rc rs i).o=o:=fun i o h=>by
  have hi:=lt_of i o h
  have:=(fct i hi).1
  rw [hid i hi,h] at this
  cases this
  rfl
 have two: ∀i j,i<ops.size→j<ops.size→i≠j→_:=fun i j hi hj hij=>hR.two (hall i hi) (hall j hj) hij
 have bit: ∀i j,i<ops.size→j<ops.size→pw ops M (rc rs i) (rc rs j)=true→True:=fun _ _ _ _ _=>trivial
 have kle: ∀i,i<ops.size→kOf (tl rs i)+ (if (rc rs i).kd=2 then 1 else 0)≤kOf rs:=fun i hi=>kOf_tl (hall i hi)
 have later: ∀i j,i<ops.size→j<ops.size→i≠j→kOf (tl rs j) <kOf (tl rs i)+ (if (rc rs i).kd=2 then 1 else 0)→has (tl rs i) j=true∧pw ops M (rc rs i) (rc rs j)=true:=fun i j hi hj hij hk=>by
  rcases two i j hi hj hij with ⟨h1,h2,_,_⟩| ⟨_,_,h3,_⟩
  ·exact ⟨h1,h2⟩
  ·omega
 refine
  {edge:=hedge
   dep_:=fun l i o ho hcl h1 j hj=>hdep l hcl i o ho h1 j hj
   uniq:=fun i j oi oj t hi hj hd1 hd2=> ?_
   rd:=fun i oi hoi t ht=> ?_
   size:=fun i=>actOf_size _
   wanted:=fun i oi hoi=> ?_
   skip:=fun i hw=> ?_
   kind:=fun i hi=> ?_
   rkm:=fun i hi=> ?_
   chain:=fun i j hi hj h1 h2 h3=> ?_
   inj:=fun i j hi hj h1 h2 h3=> ?_
   eff:=fun k hk=> ?_
   late:=fun i j hi hj h1 h2 h3=> ?_
   mem0:= ?_
   get0:= ?_
   memI:=fun k hk=> ?_
   free:=fun k i hk hi h1 h2=> ?_
   ge:=fun k hk=> ?_
   take:=fun i oi k hoi h1 hw hk he1 he2=> ?_
   effT:=fun i oi hoi h1=> ?_
   alT:=fun i oi hoi h1=> ?_}
 ·
  rcases Nat.decEq i j with hij |hij
  ·exfalso
   rw [←hop i oi hi] at hd1
   rw [←hop j oj hj] at hd2
   rcases two i j (lt_of i _ hi) (lt_of j _ hj) hij with ⟨_,h2,_,_⟩| ⟨_,h2,_,_⟩
   ·exact pw_dst h2 hd1 hd2
   ·exact pw_dst h2 hd2 hd1
  ·exact hij
 ·
  have hi:=lt_of i oi hoi
  have ht':t∈readsOf ops (rc rs i).o:=by rw [hop i oi hoi];exact mem_reads.2 ht
  have hRi:=(hR.facts (hall i hi)).2.1
  have hpi:=(hR.facts (hall i hi)).2.2
  have unw: (∀q∈tl rs i,q.o.dst≠some t)→(actOf a0 (tl rs i)).tmps[t]? =a0.tmps[t]? :=fun h=>actOf_not _ t (fun k hk=>h _ (rc_mem hk).1) h
  have tlm: ∀q∈tl rs i,has (tl rs i) q.i=true:=fun q hq=>List.any_eq_true.2 ⟨q,hq,by simp⟩
  have tlsz: ∀ (rs:List Rec) (i:Nat), ∀q∈tl rs i,q∈rs:=by
   intro rs
   induction rs with
   |nil=>intro i q h;exact h
   |cons r rs ih=>
    intro i q h
    unfold tl at h
    split at h
    ·exact List.mem_cons_of_mem _ h
    ·exact List.mem_cons_of_mem _ (ih i q h)
  have recq: ∀q∈rs, ∃o,ops[q.i]? =some o∧q.o=o:=by
   have: ∀ (rs:List Rec),Run C P xo ops M base s0 a0 rs→ ∀q∈rs, ∃o,ops[q.i]? =some o∧q.o=o:=by
    intro rs h
    induction h with
    |nil=>intro q h;cases h
    |cons hR hp hf ih=>
     intro q hq
     rcases List.mem_cons.1 hq with rfl |hq
     ·exact ⟨_,hf.1,rfl⟩
     ·exact ih q hq
   exact this rs hR
  refine ⟨fun j oj hj hd=> ?_,fun hno=>unw fun q hq e=> ?_⟩
  ·have hjl:=lt_of j oj hj
   have hdj: (rc rs j).o.dst=some t:=by rw [hop j oj hj];exact hd
   by_cases hij:i=j
   ·subst hij
    refine .inr ⟨.inr rfl,unw fun q hq e=> ?_⟩
    exact pw_dst (List.all_eq_true.1 hpi q hq) hdj e
   ·rcases two i j hi hjl hij with ⟨h1,h2,_,h4⟩| ⟨h1,h2,_,h4⟩
    ·left
     refine ⟨by have:=pw_rw h2 hdj ht';rwa [hid i hi,hid j hjl] at this,?_⟩
     by_cases hts:t<a0.tmps.size
     ·rw [if_pos hts, ←h4]
      exact actOf_yes _ hRi j t h1 (by rw [h4];exact hdj) hts
     ·rw [if_neg hts]
      exact Array.getElem?_eq_none (by rw [actOf_size];exact Nat.le_of_not_lt hts)
    ·right
     refine ⟨.inl (by have:=pw_wr h2 hdj ht';rwa [hid i hi,hid j hjl] at this),unw fun q hq e=> ?_⟩
     obtain ⟨o,ho,hqo⟩:=recq q (tlsz rs i q hq)
     have hql:=lt_of _ _ ho
     have hqh:=tlm q hq
     by_cases hqj:q.i=j
     ·have:=not_both hR (hall j hjl) (hall i hi) (Ne.symm hij) h1
      rw [hqj] at hqh
      rw [this] at hqh
      cases hqh
     ·have hdq: (rc rs q.i).o.dst=some t:=by rw [hop _ _ ho, ←hqo];exact e
      rcases two q.i j hql hjl hqj with ⟨_,h2',_,_⟩| ⟨_,h2',_,_⟩
      ·exact pw_dst h2' hdq hdj
      ·exact pw_dst h2' hdj hdq
  ·obtain ⟨o,ho,hqo⟩:=recq q (tlsz rs i q hq)
   exact hno q.i o ho (hqo▸e)
 ·
  have hi:=lt_of i oi hoi
  obtain ⟨_,ha,hw,_⟩:=fct i hi
  show (rc rs i).w=_
  rw [hw,hop i oi hoi,ha]
 ·
  cases hh:has rs i with
  |false=>show (rc rs i).v=undef;rw [rc_default hh];rfl
  |true=>
   obtain ⟨_,_,_,hc⟩:=(hR.facts hh).1
   rcases hc with ⟨_,_,h⟩| ⟨h,_⟩| ⟨h,_⟩| ⟨h,_⟩
   ·exact h
   all_goals (exact absurd (hw.symm.trans h) (by simp))
 ·obtain ⟨_,_,_,hc⟩:=fct i hi
  rcases hc with ⟨_,h,_⟩| ⟨_,h,_⟩| ⟨h1,h,_⟩| ⟨h1,h,_⟩
  ·exact .inl h
  ·exact .inl h
  ·exact .inr (.inl ⟨h,h1⟩)
  ·exact .inr (.inr ⟨h,h1⟩)
 ·have:=kle i hi
  refine ⟨fun h=> ?_,fun h=> ?_⟩
  ·rw [if_pos h] at this;show kOf (tl rs i) <kOf rs;omega
  ·show kOf (tl rs i)≤kOf rs;omega
 ·
  try simp only at h1 h2 h3
  have hij:i≠j:=fun e=>by subst e;omega
  obtain ⟨_,hp⟩:=later i j hi hj hij (by omega)
  have:=pw_eff hp h1 (by omega)
  rwa [hid i hi,hid j hj] at this
 ·
  try simp only at h1 h2 h3
  by_cases hij:i=j
  ·exact hij
  ·exfalso
   rcases two i j hi hj hij with ⟨_,_,h4,_⟩| ⟨_,_,h4,_⟩
   ·rw [if_pos h2] at h4;omega
   ·rw [if_pos h1] at h4;omega
 ·
  obtain ⟨i,h1,h2,h3⟩:=kOf_eff rs hR k hk
  refine ⟨i,?_,h2,h3⟩
  have:=(hR.facts h1).1.1
  rw [(rc_mem h1).2] at this
  exact lt_of i _ this
 ·
  try simp only at h1 h2 h3
  have hij:i≠j:=fun e=>by subst e;omega
  obtain ⟨_,hp⟩:=later i j hi hj hij (by rw [if_pos h1];omega)
  have:=pw_eff hp h1 (by omega)
  rwa [hid i hi,hid j hj] at this
 ·
  have:gAt s0 rs 0=s0:=by
   have: ∀rs,gAt s0 rs 0=s0:=by
    intro rs
    induction rs with
    |nil=>rfl
    |cons r rs ih=>simp [gAt,ih]
   exact this rs
  show (gAt s0 rs 0).n=_
  rw [this,hn0]
 ·intro q hq
  have:gAt s0 rs 0=s0:=by
   have: ∀rs,gAt s0 rs 0=s0:=by
    intro rs
    induction rs with
    |nil=>rfl
    |cons r rs ih=>simp [gAt,ih]
   exact this rs
  show (gAt s0 rs 0).mem.get q=none
  rw [this]
  exact hg0 q hq
 ·
  obtain ⟨e,h1,h2,h3⟩:=kOf_eff rs hR k hk
  obtain ⟨_,hRe,_⟩:=hR.facts h1
  have hel:e<ops.size:=by
   have:=(hR.facts h1).1.1
   rw [(rc_mem h1).2] at this
   exact lt_of e _ this
  have e1:hiAt s0 rs k=sOf s0 (tl rs e):=by rw [←h3];exact hiAt_eff rs e h1 h2
  have e2:gAt s0 rs k=gOf s0 (tl rs e):=by
   rw [←h3,gAt_tl rs e h1 _ (Nat.le_refl _)]
   exact gAt_top _ _ (Nat.le_refl _)
  obtain ⟨s1,s2,s3⟩:=sOf_get (tl rs e) hRe
  simp only [e1,e2]
  refine ⟨s1,fun q=> ?_⟩
  have inn: ∀i,i<ops.size→(rc rs i).kd=1→kOf (tl rs i)=k→has (tl rs e) i=true∧rc (tl rs e) i=rc rs i∧kOf (tl (tl rs e) i)=kOf (tl rs e):=fun i hi hk1 hki=>by
   have hei:e≠i:=fun e'=>by subst e';omega
   rcases two e i hel hi hei with ⟨q1,_,_,q4⟩| ⟨_,_,q3,_⟩
   ·refine ⟨q1,q4,?_⟩
    have: ∀ (rs:List Rec) (e i:Nat),Run C P xo ops M base s0 a0 rs→has (tl rs e) i=true→tl (tl rs e) i=tl rs i:=by
     intro rs
     induction rs with
     |nil=>intro e i _ h;cases h
     |cons r rs ih=>
      intro e i hr h
      have hR':Run C P xo ops M base s0 a0 rs:=by cases hr with |cons hR _ _=>exact hR
      have hri:r.i≠i:=hr.ne (by
       unfold tl at h
       split at h
       ·exact h
       ·exact tl_has rs e i h)
      unfold tl at h
      split at h
      ·rename_i he;simp only [tl,if_pos he,if_neg hri]
      ·rename_i he;simp only [tl,if_neg he,if_neg hri];exact ih e i hR' h
    rw [this rs e i hR q1,hki,h3]
   ·rw [if_pos h2] at q3;omega
  by_cases hc:base≤q∧q<base+ops.size∧(rc rs (q-base)).kd=1∧kOf (tl rs (q-base))=k
  ·rw [if_pos hc]
   obtain ⟨q1,q2,q3⟩:=inn (q-base) (by omega) hc.2.2.1 hc.2.2.2
   have:=s3 (q-base) q1 (by rw [q2];exact hc.2.2.1) q3
   rw [q2,show base+ (q-base)=q by omega] at this
   exact this
  ·rw [if_neg hc]
   refine s2 q fun i hi hki hkk e'=>hc ?_
   subst e'
   have hi2:=tl_has rs e i hi
   have hil:i<ops.size:=by
    have:=(hR.facts hi2).1.1
    rw [(rc_mem hi2).2] at this
    exact lt_of i _ this
   have hei:e≠i:=fun e'=>by
    subst e'
    have: ∀ (rs:List Rec) (e:Nat),Run C P xo ops M base s0 a0 rs→has (tl rs e) e=false:=by
     intro rs
     induction rs with
     |nil=>intro e _;rfl
     |cons r rs ih=>
      intro e hr
      have hR':Run C P xo ops M base s0 a0 rs:=by cases hr with |cons hR _ _=>exact hR
      unfold tl
      split
      ·rename_i he
       cases hh:has rs e with
       |false=>rfl
       |true=>exact absurd he (hr.ne hh)
      ·exact ih e hR'
    rw [this rs e hR] at hi
    cases hi
   rcases two e i hel hil hei with ⟨_,_,_,q4⟩| ⟨q1,_,_,_⟩
   ·rw [q4] at hki
    have: ∀ (rs:List Rec) (e i:Nat),Run C P xo ops M base s0 a0 rs→has (tl rs e) i=true→tl (tl rs e) i=tl rs i:=by
     intro rs
     induction rs with
     |nil=>intro e i _ h;cases h
     |cons r rs ih=>
      intro e i hr h
      have hR':Run C P xo ops M base s0 a0 rs:=by cases hr with |cons hR _ _=>exact hR
      have hri:r.i≠i:=hr.ne (by
       unfold tl at h
       split at h
       ·exact h
       ·exact tl_has rs e i h)
      unfold tl at h
      split at h
      ·rename_i he;simp only [tl,if_pos he,if_neg hri]
      ·rename_i he;simp only [tl,if_neg he,if_neg hri];exact ih e i hR' h
    rw [this rs e i hR hi,h3] at hkk
    exact ⟨by omega,by omega,by rw [show base+i-base=i by omega];exact hki,by rw [show base+i-base=i by omega];exact hkk⟩
   ·have:=not_both hR hi2 h1 (Ne.symm hei) q1
    rw [this] at hi
    cases hi
 ·
  try simp only at h1 h2
  rcases Nat.eq_zero_or_pos k with rfl |hk0
  ·have:gAt s0 rs 0=s0:=by
    have: ∀rs,gAt s0 rs 0=s0:=by
     intro rs
     induction rs with
     |nil=>rfl
     |cons r rs ih=>simp [gAt,ih]
    exact this rs
   rw [this]
   exact hg0 _ (by omega)
  ·obtain ⟨e,q1,q2,q3⟩:=kOf_eff rs hR (k-1) (by omega)
   have hel:e<ops.size:=by
    have:=(hR.facts q1).1.1
    rw [(rc_mem q1).2] at this
    exact lt_of e _ this
   have e1:gAt s0 rs k=(rc rs e).s:=by
    have:=gAt_eff (s0:=s0) rs e q1 q2
    rwa [q3,show k-1+1=k by omega] at this
   rw [e1]
   have hei:i≠e:=fun e'=>by subst e';omega
   obtain ⟨_,_,_,hc⟩:=fct e hel
   obtain ⟨hoi,_,_,hci⟩:=fct i hi
   rcases hc with ⟨_,h,_⟩| ⟨_,h,_⟩| ⟨_,h,_⟩| ⟨_,_,_,_,hfr⟩
   ·omega
   ·omega
   ·omega
   ·have hki:kindOf (rc rs i).o=1:=by
     rcases hci with ⟨_,h,_⟩| ⟨_,h,_⟩| ⟨_,_,h,_⟩| ⟨_,h,_⟩
     ·omega
     ·omega
     ·exact h
     ·omega
    refine hfr i _ (by have:=hoi;rwa [hid i hi] at this) hki ?_
    obtain ⟨hle,_⟩:=later i e hi hel hei (by omega)
    exact not_both hR (hall i hi) (hall e hel) hei hle
 ·
  rcases Nat.eq_zero_or_pos k with rfl |hk0
  ·have:gAt s0 rs 0=s0:=by
    have: ∀rs,gAt s0 rs 0=s0:=by
     intro rs
     induction rs with
     |nil=>rfl
     |cons r rs ih=>simp [gAt,ih]
    exact this rs
   show base+ops.size≤ (gAt s0 rs 0).n
   rw [this,hn0]
   exact Nat.le_refl _
  ·obtain ⟨e,q1,q2,q3⟩:=kOf_eff rs hR (k-1) (by omega)
   have hel:e<ops.size:=by
    have:=(hR.facts q1).1.1
    rw [(rc_mem q1).2] at this
    exact lt_of e _ this
   have e1:gAt s0 rs k=(rc rs e).s:=by
    have:=gAt_eff (s0:=s0) rs e q1 q2
    rwa [q3,show k-1+1=k by omega] at this
   show base+ops.size≤ (gAt s0 rs k).n
   rw [e1]
   obtain ⟨_,_,_,hc⟩:=fct e hel
   rcases hc with ⟨_,h,_⟩| ⟨_,h,_⟩| ⟨_,h,_⟩| ⟨_,_,_,h,_⟩
   ·omega
   ·omega
   ·omega
   ·exact h
 ·
  try simp only at h1 hw
  have hi:=lt_of i oi hoi
  obtain ⟨ho,ha,_,hc⟩:=fct i hi
  have ho2:=hop i oi hoi
  obtain ⟨hk0,x,hx⟩:kindOf (rc rs i).o=0∧ ∃x,aop C P (gOf s0 (tl rs i)) (rc rs i).a (rc rs i).o=some ((rc rs i).v,x):=by
   rcases hc with ⟨h,_⟩| ⟨_,_,h,h'⟩| ⟨_,h,_⟩| ⟨_,h,_⟩
   ·rw [h] at hw;cases hw
   ·exact ⟨h,h'⟩
   ·omega
   ·omega
  rw [ho2] at hk0 hx
  rw [ha] at hx
  have key:aop C P (gAt s0 rs k) (actOf a0 (tl rs i)) oi=some ((rc rs i).v,gAt s0 rs k):=by
   obtain ⟨hxs,hany⟩:=kind0_s hk0 hx
   cases hl:looksM oi with
   |false=>exact hany hl _
   |true=>
    have hs:=List.all_eq_true.1 hst _ (rc_mem (hall i hi)).1
    unfold stays at hs
    rw [h1,hw,ho2,hl] at hs
    simp only [beq_self_eq_true,Bool.and_true,Bool.not_true,Bool.false_or] at hs
    have hk':k< (gsOf s0 rs).length:=by rw [gsOf_len];omega
    have hge:=gsOf_get (s0:=s0) rs k hk
    have hz: (gAt s0 rs k,k)∈ (gsOf s0 rs).zipIdx:=by
     rw [List.mem_zipIdx_iff_getElem?]
     exact hge
    have hs:=List.all_eq_true.1 hs _ hz
    simp only [Bool.or_eq_true,Bool.not_eq_true'] at hs
    rcases hs with hs |hs
    ·exfalso
     rw [List.all_eq_false] at hs
     obtain ⟨y,hy,hn⟩:=hs
     obtain ⟨z1,z2,z3⟩:=effsOf_rec rs y hR hy
     have hyl:y.1<ops.size:=by
      have:=(hR.facts z1).1.1
      rw [(rc_mem z1).2] at this
      exact lt_of _ _ this
     apply hn
     simp only [Bool.and_eq_true,Bool.or_eq_true,Bool.not_eq_true',decide_eq_true_eq]
     rw [hid i hi]
     refine ⟨?_,?_⟩
     ·cases hb: (M.getD i 0).testBit y.1 with
      |false=>exact .inl rfl
      |true=>exact .inr (by have:=he1 y.1 hyl z2 hb;omega)
     ·cases hb: (M.getD y.1 0).testBit i with
      |false=>exact .inl rfl
      |true=>exact .inr (by have:=he2 y.1 hyl z2 hb;omega)
    ·rw [ha] at hs
     split at hs
     ·rename_i u x' hu
      have:=veq_ok _ _ _ hs
      subst this
      rw [hu,(kind0_s hk0 hu).1]
     ·cases hs
  intro ι w ac hr hops K Q hK
  obtain ⟨ι',w',nx,v',e1,e2,e3,e4⟩:=aop_ok hC hr hops key
  have hnd: ∀c,oi.op≠ .defer c:=fun c e=>by simp [kindOf,e] at hk0
  rcases e2 with rfl | ⟨rfl,rfl⟩
  ·exact wpIn_val hF hnd e1 (hK ι' w' v' e3 e4)
  ·unfold Oper.wpIn
   refine ⟨fun g _=>hF g,?_⟩
   rw [Oper.semAt_eq _ _ _ hnd,e1]
   exact hK ι' w' _ e3 e4
 ·
  try simp only at h1
  have hi:=lt_of i oi hoi
  obtain ⟨ho,ha,_,hc⟩:=fct i hi
  have ho2:=hop i oi hoi
  rcases hc with ⟨_,h,_⟩| ⟨_,h,_⟩| ⟨_,h,_⟩| ⟨_,_,h,_⟩
  ·omega
  ·omega
  ·omega
  ·rw [ho2,ha] at h
   have e1:hiAt s0 rs (kOf (tl rs i))=sOf s0 (tl rs i):=hiAt_eff rs i (hall i hi) h1
   have e2:gAt s0 rs (kOf (tl rs i)+1)=(rc rs i).s:=gAt_eff rs i (hall i hi) h1
   simp only [e1,e2]
   exact hxo _ _ _ _ _ h
 ·
  try simp only at h1
  have hi:=lt_of i oi hoi
  obtain ⟨ho,ha,_,hc⟩:=fct i hi
  have ho2:=hop i oi hoi
  rcases hc with ⟨_,h,_⟩| ⟨_,h,_⟩| ⟨_,_,_,h,_⟩| ⟨_,h,_⟩
  ·omega
  ·omega
  ·rw [ho2,ha,hid i hi] at h
   exact aal_ok hC hF h
  ·omega
end
end
end Go.Proofs.YtdcioacjhpnihaaGreatDoor
namespace Go.Proofs.YtdcioacjhpnihaaGreatDoor
open Go
noncomputable section
theorem VR.undef' (ι:Emb):VR ι undef undef:= .tuple rfl (fun _ hi=>absurd hi (Nat.not_lt_zero _))
section
variable {F:Fence} {f:Nat} {C:Cfg} {P:Program} {xo:Oper→Act→AS→Option (Value × AS)} {ops:Array Oper}
theorem drawn_ok (hC:C.ok P) (hF: ∀g,F.fn g) (hxo: ∀o a s v s',xo o a s=some (v,s')→OpT F f P C o a s.mem v s'.mem) (hm:P.follows .mixedOrders=true) {M:List Nat} (hM:masks ops.toList [] =some M) {a:Act} {s:AS} {rs:List Rec}
  (hR:Run C P xo ops M s.n ⟨s.h,s.n+ops.size⟩ a rs) (hq: (List.range ops.size).all (fun i=>rs.any (fun q=>q.i==i))=true∧rs.all (stays C P M (effsOf rs) (gsOf ⟨s.h,s.n+ops.size⟩ rs))=true)
  {ι:Emb} {w:World} {ac:Act} (hr:Rep P C.G ι s.mem w) (ha:AR ι a ac) {Q:Exit→Act→World→Prop} (hQ: ∀ι' w' ac',Tr P C.G ι s.mem w ι' (sOf ⟨s.h,s.n+ops.size⟩ rs).mem w'→AR ι' (actOf a rs) ac'→Q .normal ac' w') {id:Nat}:
  (Code.region id ops true).wpIn F f P Q ac w:=by
 have hall: ∀i,i<ops.size→has rs i=true:=fun i hi=>List.all_eq_true.1 hq.1 i (List.mem_range.2 hi)
 have hg0: ∀q,s.n≤q→s.mem.get q=none:=fun q hqn=>by
  cases hh:s.mem.get q with
  |none=>rfl
  |some o=>
   obtain ⟨b,_,e,_⟩:=hr.obj q o hh
   have:=hr.new q hqn
   rw [this] at e
   cases e
 have R:=reg_of_run (F:=F) (f:=f) (base:=s.n) hC hF hxo hM hR hall hq.2 rfl hg0
 refine wpIn_region_any hm ?_
 show wpAnyIn F f P .any ops Q ops.size (Array.replicate ops.size false) ac w.drew
 have l0: ∀i,(Array.replicate ops.size false).getD i false=false:=fun i=>by
  simp only [Array.getD_eq_getD_getElem?,Array.getElem?_replicate]
  split<;>rfl
 have hrd:=hr.drew
 have hcl: ∀n,cl (Array.replicate ops.size false) n=0:=by
  intro n
  induction n with
  |zero=>rfl
  |succ n ih=>simp [cl,ih,l0]
 have g0: ∀rs,gAt (⟨s.h,s.n+ops.size⟩:AS) rs 0=⟨s.h,s.n+ops.size⟩:=by
  intro rs
  induction rs with
  |nil=>rfl
  |cons r rs ih=>simp [gAt,ih]
 have hMD0:MD ops s.n (fun i=>(rc rs i).kd) (fun i=>kOf (tl rs i)) (fun k=>(gAt (⟨s.h,s.n+ops.size⟩:AS) rs k).mem) (fun i=>(rc rs i).ob) (Array.replicate ops.size false) 0=⟨s.h.get,s.n+ops.size⟩:=by
  simp only [MD,g0,l0]
  simp [AS.mem]
 refine reg_any R hF (ι₀:=ι) (m₀:=s.mem) (w₀:=w.drew) rfl hrd.inv.low (fun l ac' w' ι' hlall hI=> ?_) ops.size _ ac w.drew ι 0 ⟨by simp,fun j oj _ hl=>(by rw [l0] at hl;cases hl),Nat.zero_le _,fun i _ _=>(by simp [l0]),?_,fun i hi _ _=>hrd.new _ (by show s.n≤s.n+i;omega),ha.t.1.symm,fun i oi t _ _ hl=>(by rw [l0] at hl;cases hl),fun t _ h1 h2=>ha.t.2 t h1 h2,ha.d⟩ (by rw [hcl];omega)
 ·
  obtain ⟨s1,s2,s3⟩:=sOf_get rs hR
  have hgt:gAt (⟨s.h,s.n+ops.size⟩:AS) rs (kOf rs)=gOf (⟨s.h,s.n+ops.size⟩:AS) rs:=gAt_top _ _ (Nat.le_refl _)
  have ilt: ∀i,has rs i=true→i<ops.size:=fun i hi=>by
   have:=(hR.facts hi).1.1
   rw [(rc_mem hi).2] at this
   exact (Array.getElem?_eq_some_iff.1 this).1
  have hmem:MD ops s.n (fun i=>(rc rs i).kd) (fun i=>kOf (tl rs i)) (fun k=>(gAt (⟨s.h,s.n+ops.size⟩:AS) rs k).mem) (fun i=>(rc rs i).ob) l (kOf rs)=(sOf (⟨s.h,s.n+ops.size⟩:AS) rs).mem:=by
   have hget: ∀q,(MD ops s.n (fun i=>(rc rs i).kd) (fun i=>kOf (tl rs i)) (fun k=>(gAt (⟨s.h,s.n+ops.size⟩:AS) rs k).mem) (fun i=>(rc rs i).ob) l (kOf rs)).get q=(sOf (⟨s.h,s.n+ops.size⟩:AS) rs).mem.get q:=fun q=>by
    simp only [MD,hgt]
    split
    ·rename_i hc
     have hi:=hall (q-s.n) (by omega)
     have hk:=kOf_tl hi
     have:=s3 (q-s.n) hi hc.2.2.1 (by omega)
     rw [show s.n+ (q-s.n)=q by omega] at this
     exact this.symm
    ·rename_i hc
     refine (s2 q fun i hi hk hkk e=>hc ?_).symm
     subst e
     have hil:=ilt i hi
     refine ⟨by omega,by omega,?_,?_,?_⟩ <;>rw [show s.n+i-s.n=i by omega]
     ·exact hk
     ·exact hlall i hil
     ·omega
   show (⟨_,_⟩:Mem)=⟨_,_⟩
   have e1: (MD ops s.n (fun i=>(rc rs i).kd) (fun i=>kOf (tl rs i)) (fun k=>(gAt (⟨s.h,s.n+ops.size⟩:AS) rs k).mem) (fun i=>(rc rs i).ob) l (kOf rs)).get=(sOf (⟨s.h,s.n+ops.size⟩:AS) rs).mem.get:=funext hget
   have e2: (MD ops s.n (fun i=>(rc rs i).kd) (fun i=>kOf (tl rs i)) (fun k=>(gAt (⟨s.h,s.n+ops.size⟩:AS) rs k).mem) (fun i=>(rc rs i).ob) l (kOf rs)).n=(sOf (⟨s.h,s.n+ops.size⟩:AS) rs).mem.n:=by
    show (gAt _ rs (kOf rs)).mem.n=_
    rw [hgt]
    exact s1.symm
   simp only [MD] at e1 e2 ⊢
   rw [e1,e2]
   rfl
  refine hQ ι' w' ac' ((Tr.drew hr).trans (hmem▸hI.tr)) ⟨⟨by rw [actOf_size];exact hI.tsz.symm,fun t h1 h2=> ?_⟩,by rw [actOf_defers];exact hI.defs⟩
  have hts:t<a.tmps.size:=by rwa [actOf_size] at h1
  by_cases hex: ∃i,has rs i=true∧(rc rs i).o.dst=some t
  ·obtain ⟨i,hi,hd⟩:=hex
   have:=actOf_yes rs hR i t hi hd hts
   rw [Array.getElem?_eq_getElem h1] at this
   injection this with this
   rw [this]
   have ho:=(hR.facts hi).1.1
   rw [(rc_mem hi).2] at ho
   exact hI.done i _ t ho hd (hlall i (ilt i hi)) h2
  ·have hno: ∀q∈rs,q.o.dst≠some t:=by
    have: ∀ (qs:List Rec),Run C P xo ops M s.n (⟨s.h,s.n+ops.size⟩:AS) a qs→(∀i,has qs i=true→(rc qs i).o.dst≠some t)→ ∀q∈qs,q.o.dst≠some t:=by
     intro qs hq
     induction hq with
     |nil=>intro _ q h;cases h
     | @cons r rs hR hp hf ih=>
      intro hh q hq
      have hc:Run C P xo ops M s.n (⟨s.h,s.n+ops.size⟩:AS) a (r::rs):= .cons hR hp hf
      rcases List.mem_cons.1 hq with rfl |hq
      ·have:=hh q.i (by simp [has_cons])
       simpa [rc] using this
      ·refine ih (fun i hi=> ?_) q hq
       have:=hh i (by rw [has_cons,hi];simp)
       simpa [rc,hc.ne hi] using this
    exact this rs hR fun i hi e=>hex ⟨i,hi,e⟩
   have:=actOf_not (a0:=a) rs t (fun i hi=>hno _ (rc_mem hi).1) hno
   rw [Array.getElem?_eq_getElem h1,Array.getElem?_eq_getElem hts] at this
   injection this with this
   rw [this]
   refine hI.rest t (fun i oi hi hd=> ?_) hts h2
   exfalso
   have hil:=(Array.getElem?_eq_some_iff.1 hi).1
   refine hex ⟨i,hall i hil,?_⟩
   have ho:=(hR.facts (hall i hil)).1.1
   rw [(rc_mem (hall i hil)).2,hi] at ho
   cases ho
   exact hd
 ·
  rw [hMD0]
  exact ⟨ι.le_refl,hrd.less (fun k o h=>h) (by show s.n≤s.n+ops.size;omega),rfl,rfl,rfl,Nat.le_refl _,fun _ _ _=>rfl,fun k _ hk hb _=>⟨k,hk,hb⟩,fun _ h=> .inl h,by show s.n≤s.n+ops.size;omega,fun _ _ h=>h⟩
theorem xDraw_ok (hC:C.ok P) (hF: ∀g,F.fn g) (hxo: ∀o a s v s',xo o a s=some (v,s')→OpT F f P C o a s.mem v s'.mem) (hm:P.follows .mixedOrders=true) {a a':Act} {s s':AS} (h:xDraw C P xo ops a s=some (a',s'))
  {ι:Emb} {w:World} {ac:Act} (hr:Rep P C.G ι s.mem w) (ha:AR ι a ac) {Q:Exit→Act→World→Prop} (hQ: ∀ι' w' ac',Tr P C.G ι s.mem w ι' s'.mem w'→AR ι' a' ac'→Q .normal ac' w') {id:Nat}:
  (Code.region id ops true).wpIn F f P Q ac w:=by
 unfold xDraw at h
 split at h
 ·rename_i M hM
  split at h
  ·rename_i a2 s2 rs hrun
   split at h
   ·rename_i hq
    cases h
    obtain ⟨hR,rfl,rfl⟩:=rrun_ok (s0:=⟨s.h,s.n+ops.size⟩) (a0:=a) _ _ _ _ _ hrun .nil rfl rfl rfl
    exact drawn_ok hC hF hxo hm hM hR hq hr ha hQ
   ·cases h
  ·cases h
 ·cases h
def adefer (C:Cfg) (a:Act) (c:Call):Option Deferred:=match c.callee with
 | .value x=>match aev C a x,aevs C a c.args.toList with
  |some (.func (.func g) fs cap),some vs=>if fs.isEmpty then some ⟨.fn (.func g) cap,vs.toArray⟩ else none
  |_,_=>none
 |_=>none
def xOps (C:Cfg) (inR:Bool) (xo:Oper→Act→AS→Option (Value × AS)) (ops:Array Oper):List Nat→Act→AS→Option (Act × AS)
 | [],a,s=>some (a,s)
 |i::l,a,s=>match ops[i]? with
  |some o=>if Region.wanted o (yielded ops a.tmps) then (match o.op with
    | .defer c=>if inR then none else (match adefer C a c with
     |some d=>xOps C inR xo ops l (({a with defers:=d::a.defers}:Act).put o.dst undef) s
     |none=>none)
    |_=>match xo o a s with
     |some (v,s')=>xOps C inR xo ops l (a.put o.dst v) s'
     |none=>none)
   else xOps C inR xo ops l (a.put o.dst undef) s
  |none=>none
theorem AR.put {ι:Emb} {a ac:Act} (h:AR ι a ac) (d:Option Tmp) {v v':Value} (hv:VR ι v v'):AR ι (a.put d v) (ac.put d v'):=by
 refine ⟨⟨by rw [put_size,put_size];exact h.t.1,fun t h1 h2=> ?_⟩,by rw [put_defers,put_defers];exact h.d⟩
 have h1':t<a.tmps.size:=by rwa [put_size] at h1
 have h2':t<ac.tmps.size:=by rwa [put_size] at h2
 rw [put_get a d v t h1 h1',put_get ac d v' t h2 h2']
 split
 ·exact hv
 ·exact h.t.2 t h1' h2'
theorem AR.opv {ι:Emb} {m:Mem} {w:World} {a ac:Act} (h:AR ι a ac) (hr:Rep P C.G ι m w) (x:Operand) (u:Value) (hu:aev C a x=some u):VR ι u (ac.eval x):=by
 refine aev_ok hr (a:=a) (fun t e v hv=> ?_) hu
 obtain ⟨h1,rfl⟩:=Array.getElem?_eq_some_iff.1 hv
 have h2:t<ac.tmps.size:=by rw [←h.t.1];exact h1
 have:=h.t.2 t h1 h2
 simpa [Array.getD,h2] using this
theorem AR.wanted {ι:Emb} {a ac:Act} (h:AR ι a ac) (o:Oper):Region.wanted o (yielded ops ac.tmps)=Region.wanted o (yielded ops a.tmps):=by
 unfold Region.wanted
 cases hg:o.guard with
 |none=>rfl
 |some gb=>
  obtain ⟨g,b⟩:=gb
  simp only
  congr 1
  unfold yielded
  cases hog:ops[g]? with
  |none=>rfl
  |some og=>
   simp only [Option.bind_some]
   cases hd:og.dst with
   |none=>rfl
   |some t=>
    simp only [Option.bind_some]
    have hsz:=h.t.1
    by_cases ht:t<ac.tmps.size
    ·have ht':t<a.tmps.size:=hsz▸ht
     have:=h.t.2 t ht' ht
     rw [Array.getElem?_eq_getElem ht,Array.getElem?_eq_getElem ht']
     generalize a.tmps[t] =x at this
     generalize ac.tmps[t] =y at this
     cases this<;>rfl
    ·have e1:ac.tmps[t]? =none:=Array.getElem?_eq_none (Nat.le_of_not_lt ht)
     have e2:a.tmps[t]? =none:=Array.getElem?_eq_none (by rw [hsz];exact Nat.le_of_not_lt ht)
     rw [e1,e2]
theorem adefer_ok {ι:Emb} {m:Mem} {w:World} {a ac:Act} (h:AR ι a ac) (hr:Rep P C.G ι m w) {c:Call} {d:Deferred} (hd:adefer C a c=some d) (ty:TypeId): ∃d',(resolve ac.eval c ty).run P w= .ok d' w∧DR ι d d':=by
 unfold adefer at hd
 split at hd
 ·rename_i x hx
  split at hd
  ·rename_i g fs cap vs hv hvs
   split at hd
   ·rename_i hfs
    cases hd
    have hf:=h.opv hr x _ hv
    have hvv:=aevs_ok (ac:=ac) (ι:=ι) c.args.toList vs (fun y _ u hu=>h.opv hr y u hu) hvs
    obtain ⟨cap',e,hc⟩: ∃cap',ac.eval x= .func (.func g) #[] cap'∧VRs ι cap cap':=by
     generalize ac.eval x=q at hf
     cases hf with
     |func _ hb1 hb2 h1 h2=>
      have hf0:fs= #[] :=by simpa using hfs
      subst hf0
      have:=Array.eq_empty_of_size_eq_zero hb1.symm
      subst this
      exact ⟨_,rfl,h1,h2⟩
    refine ⟨⟨.fn (.func g) cap',c.args.map ac.eval⟩,?_,rfl,hc,?_⟩
    ·simp only [resolve,hx,e,Deferred.ofValue]
     simp
    ·have:=hvv.s
     have e2: (c.args.toList.map ac.eval).toArray=c.args.map ac.eval:=by apply Array.ext';simp
     rwa [e2] at this
   ·cases hd
  ·cases hd
 ·cases hd
theorem xOps_ok {inR:Bool} (hin:inR=false→F.round=none) (hF: ∀g,F.fn g) (hxo: ∀o a s v s',xo o a s=some (v,s')→OpT F f P C o a s.mem v s'.mem): ∀ (l:List Nat) {a a':Act} {s s':AS},xOps C inR xo ops l a s=some (a',s')→ ∀ {ι:Emb} {w:World} {ac:Act},Rep P C.G ι s.mem w→AR ι a ac→
  ∀ {Q:Exit→Act→World→Prop},(∀ι' w' ac',Tr P C.G ι s.mem w ι' s'.mem w'→AR ι' a' ac'→Q .normal ac' w')→wpOpsIn F f P ops Q l ac w
 | [],a,a',s,s',h,ι,w,ac,hr,ha,Q,hQ=>by
  cases h
  exact hQ ι w ac (Tr.refl hr) ha
 |i::l,a,a',s,s',h,ι,w,ac,hr,ha,Q,hQ=>by
  rw [wpOpsIn_cons]
  unfold xOps at h
  split at h
  ·rename_i o ho
   unfold wpOpIn
   rw [ho]
   simp only [ha.wanted o]
   split at h
   ·rename_i hw
    rw [if_pos hw]
    have key: ∀v s1,xo o a s=some (v,s1)→xOps C inR xo ops l (a.put o.dst v) s1=some (a',s')→o.wpIn F f P ac w (wpOpsIn F f P ops Q l) Q:=fun v s1 hv h=>by
     refine hxo _ _ _ _ _ hv ι w ac hr (fun x _ u hu=>ha.opv hr x u hu) _ Q fun ι' w' v' ht hv'=> ?_
     exact xOps_ok hin hF hxo l h ht.rep ((ha.mono ht.le).put o.dst hv') fun ι'' w'' ac'' ht' ha'=>hQ ι'' w'' ac'' (ht.trans ht') ha'
    split at h
    ·rename_i c hc
     split at h
     ·cases h
     ·rename_i hnr
      have hro:=hin (by simpa using hnr)
      split at h
      ·rename_i d hd
       obtain ⟨d',e1,e2⟩:=adefer_ok ha hr hd o.type
       unfold Oper.wpIn
       refine ⟨fun g _=>hF g,?_⟩
       rw [hro,Oper.semAt_none]
       have: (execOp ac.eval o).run P w= .ok (.defer d') w:=by simp [execOp,hc,e1]
       rw [this]
       refine xOps_ok hin hF hxo l h hr ?_ hQ
       have hAR:AR ι {a with defers:=d::a.defers} {ac with defers:=d'::ac.defers}:=⟨ha.t,e2,ha.d⟩
       exact hAR.put o.dst (VR.undef' ι)
      ·cases h
    ·split at h
     ·rename_i v s1 hv
      exact key v s1 hv h
     ·cases h
   ·rename_i hw
    rw [if_neg hw]
    exact ⟨fun g _=>hF g,xOps_ok hin hF hxo l h hr (ha.put o.dst (.tuple rfl (fun i hi=>absurd hi (Nat.not_lt_zero _)))) hQ⟩
  ·cases h
end
end
end Go.Proofs.YtdcioacjhpnihaaGreatDoor
namespace Go.Proofs.YtdcioacjhpnihaaGreatDoor
open Go
noncomputable section
inductive AX where
 |normal
 |exit (id:Nat)
 |ret
def AX.ex:AX→Exit
 | .normal=> .normal
 | .exit id=> .exit id
 | .ret=> .ret
structure Env where
 C:Cfg
 P:Program
 fns:T Func
 orc:FuncId→List Value→AS→Option (Value × AS)
 ext:FuncId→List Value→AS→Option (Value × AS)
 quiet:FuncId→Bool
abbrev XC:=Option Nat→Code→Act→AS→Option (AX × Act × AS)
def xDefers (E:Env):List Deferred→AS→Option AS
 | [],s=>some s
 |d::ds,s=>match d.target with
  | .collected r=>match s.h.get r with
   |some (.deferred (some []))=>match aput s r (some (.deferred none)) with
    |some s'=>xDefers E ds s'
    |none=>none
   |_=>none
  | .fn (.func g) cap=>if E.quiet g&&cap.isEmpty then (match d.args.toList with
   | [.pointer (some ⟨_,0,none⟩)] =>xDefers E ds s
   |_=>none) else none
  |_=>none
def xResult (E:Env) (a:Act) (s:AS):ResultVar→Option Value
 | .tmp t=>a.tmps[t]?
 | .cell t ty=>match a.tmps[t]? with
  |some p=>aload E.C s ty p
  |none=>none
def xResults (E:Env) (a:Act) (s:AS):List ResultVar→Option (List Value)
 | [] =>some []
 |r::rs=>match xResult E a s r,xResults E a s rs with
  |some v,some vs=>some (v::vs)
  |_,_=>none
def packV:List Value→Value
 | [v] =>v
 |vs=> .tuple vs.toArray
def xBody (E:Env) (xc:XC) (fn:Func) (c:Code) (args:List Value) (s:AS):Option (Value × AS):=
 match xc none c ⟨args.toArray++Array.replicate (fn.ntmps-args.length) undef, []⟩ s with
 |some (.exit _,_,_)=>none
 |some (_,a,s1)=>match xDefers E a.defers s1 with
  |some s2=>match xResults E a s2 fn.results.toList with
   |some vs=>some (packV vs,s2)
   |none=>none
  |none=>none
 |none=>none
def xCall (E:Env) (xc:XC) (f:FuncId) (args:List Value) (s:AS):Option (Value × AS):=
 match E.orc f args s with
 |some r=>some r
 |none=>match E.fns.get f with
  |some fn=>match fn.body with
   |some c=>xBody E xc fn c args s
   |none=>none
  |none=>none
def jumpOf:AX→Option Code
 | .normal=>none
 | .exit id=>some (.exit id)
 | .ret=>some .ret
def setAll (t:Array Value):List (Tmp × Value)→Array Value
 | [] =>t
 |x::l=>setAll (t.setIfInBounds x.1 x.2) l
def xRound (xc:XC) (l:Nat) (args:List Value) (s:AS):Option (Value × AS):=
 match s.h.get l with
 |some (.loop r)=>if args.length=r.params.size then (match xc (some l) r.assign ⟨setAll r.tmps (r.params.toList.zip args), []⟩ s with
  |some (.normal,a1,s1)=>match s1.h.get l with
   |some (.loop r1)=>if r1.state= .ready then (match aput s1 l (some (.loop {r1 with state:= .busy})) with
    |some s2=>match xc (some l) r.body a1 s2 with
     |some (e,_,s3)=>match s3.h.get l with
      |some (.loop r3)=>match aput s3 l (some (.loop {r3 with state:=if (jumpOf e).isNone then .ready else .done,pending:=jumpOf e})) with
       |some s4=>some (.bool (jumpOf e).isNone,s4)
       |none=>none
      |_=>none
     |none=>none
    |none=>none) else none
   |_=>none
  |_=>none) else none
 |_=>none
def xOp (E:Env) (xc:XC) (o:Oper) (a:Act) (s:AS):Option (Value × AS):=
 match o.op with
 | .call c=>match c.callee with
  | .value x=>match aev E.C a x,aevs E.C a c.args.toList with
   |some (.func (.func f) fs cap),some vs=>match E.ext f (fs.toList++vs++cap.toList) s with
     |some r=>some r
     |none=>xCall E xc f (fs.toList++vs++cap.toList) s
   |some (.func (.yield l) _ _),some vs=>xRound xc l vs s
   |_,_=>none
  | .builtin _=>aop E.C E.P s a o
  |_=>none
 |_=>aop E.C E.P s a o
def xBlock (ro:Option Nat) (s:AS):Option (Nat × List Deferred × AS):=match ro with
 |none=>match anew s (.deferred (some [])) with
  |some (d,s')=>some (d, [⟨.collected d, #[]⟩],s')
  |none=>none
 |some l=>match s.h.get l with
  |some (.loop r)=>some (r.defers, [],s)
  |_=>none
def xRange (E:Env) (xc:XC) (ro:Option Nat) (g:Operand) (ps:Array Tmp) (assign body:Code) (a:Act) (s:AS):Option (AX × Act × AS):=
 match xBlock ro s with
 |some (d,mark,s1)=>match anew s1 (.loop {state:= .ready,pending:=none,fn:=0,tmps:=a.tmps,params:=ps,assign,body,defers:=d}) with
  |some (l,s2)=>match aev E.C a g with
   |some (.func (.func gf) fs cap)=>if fs.isEmpty then (match xCall E xc gf (.func (.yield l) #[] #[] ::cap.toList) s2 with
    |some (_,s3)=>match s3.h.get l with
     |some (.loop r)=>if r.state≠ .busy then (match aput s3 l (some (.loop {r with state:= .exhausted})) with
      |some s4=>match r.pending with
       |none=>some (.normal,{a with defers:=mark++a.defers},s4)
       |some .ret=>some (.ret,{a with defers:=mark++a.defers},s4)
       |some (.exit id)=>some (.exit id,{a with defers:=mark++a.defers},s4)
       |_=>none
      |none=>none) else none
     |_=>none
    |none=>none) else none
   |_=>none
  |none=>none
 |none=>none
def xCode (E:Env):Nat→XC
 |0,_,_,_,_=>none
 |n+1,ro,c,a,s=>match c with
  | .skip=>some (.normal,a,s)
  | .label _=>some (.normal,a,s)
  | .scope c=>xCode E n ro c a s
  | .exit id=>some (.exit id,a,s)
  | .ret=>some (.ret,a,s)
  | .seq x y=>match xCode E n ro x a s with
   |some (.normal,a',s')=>xCode E n ro y a' s'
   |r=>r
  | .cond c x y=>match aev E.C a c with
   |some (.bool b)=>xCode E n ro (if b then x else y) a s
   |_=>none
  | .block id c=>match xCode E n ro c a s with
   |some (.exit id',a',s')=>if id'=id then some (.normal,a',s') else some (.exit id',a',s')
   |r=>r
  | .loop c=>match xCode E n ro c a s with
   |some (.normal,a',s')=>xCode E n ro (.loop c) a' s'
   |r=>r
  | .region _ ops draw=>match (if draw then xDraw E.C E.P (xOp E (xCode E n)) ops a s else xOps E.C ro.isSome (xOp E (xCode E n)) ops (List.range ops.size) a s) with
   |some (a',s')=>some (.normal,a',s')
   |none=>none
  | .rangeFunc g ps assign body=>xRange E (xCode E n) ro g ps assign body a s
  |_=>none
end
end Go.Proofs.YtdcioacjhpnihaaGreatDoor
namespace Go.Proofs.YtdcioacjhpnihaaGreatDoor
open Go
noncomputable section
def frF:Option Nat→Fence
 |none=>Fence.wide
 |some l=>Fence.wide.inRound l
theorem frF_fn (r:Option Nat) (g:FuncId): (frF r).fn g:=by cases r<;>trivial
theorem frF_depth (r:Option Nat): (frF r).depth=none:=by cases r<;>rfl
def roR (ι:Emb):Option Nat→Option Nat→Prop
 |none,none=>True
 |some l,some l'=>ι.b l=some l'
 |_,_=>False
theorem roR.mono {ι ι':Emb} (hl:ι.le ι') {r r':Option Nat} (h:roR ι r r'):roR ι' r r':=by
 cases r<;>cases r'<;>first |exact h |exact (hl _ _ h).1
structure Env.Ok (E:Env):Prop where
 C:E.C.ok E.P
 mixed:E.P.follows .mixedOrders=true
 fns: ∀f fn,E.fns.get f=some fn→E.P.funcs[f]? =some fn∧ ∀args w,(callFunc f args).run E.P w= .ok (.enter f args) w
 orc: ∀f args s v s',E.orc f args s=some (v,s')→(∀args w,(callFunc f args).run E.P w= .ok (.enter f args) w)∧
  ∀ι w args',Rep E.P E.C.G ι s.mem w→VRl ι args args'→Calls E.P f args'.toArray w fun e w'=> ∃ι' v',e= .returned v'∧Tr E.P E.C.G ι s.mem w ι' s'.mem w'∧VR ι' v v'
 ext: ∀f args s v s',E.ext f args s=some (v,s')→ ∀ι w args',Rep E.P E.C.G ι s.mem w→VRl ι args args'→ ∃ι' w' v',(callFunc f args'.toArray).run E.P w= .ok (.value v') w'∧Tr E.P E.C.G ι s.mem w ι' s'.mem w'∧VR ι' v v'
 quiet: ∀f,E.quiet f=true→(∀args w,(callFunc f args).run E.P w= .ok (.enter f args) w)∧ ∀n w b,CallsDIn Fence.wide n E.P f #[.pointer (some ⟨b,0,none⟩)] .returning w fun e u w'=>u= .returning∧(∃v,e= .returned v)∧w'=w
def resF (tmps:Array Value):ResultVar→Sem Value
 | .tmp t=>pure (tmps.getD t undef)
 | .cell a t=>do loadVar t (←asAddr (tmps.getD a undef))
theorem results_eq (fn:Func) (tmps:Array Value):results fn tmps=(do
  let vs←fn.results.mapM (resF tmps)
  pure (if h:vs.size=1 then vs[0] else .tuple vs)):=by
 unfold results
 congr 1
section
variable {E:Env} (hE:E.Ok)
include hE
theorem xResult_ok {ι:Emb} {s:AS} {w:World} (hr:Rep E.P E.C.G ι s.mem w) {a ac:Act} (ha:VRs ι a.tmps ac.tmps) {r:ResultVar} {v:Value} (h:xResult E a s r=some v):
  ∃v',(resF ac.tmps r).run E.P w= .ok v' w∧VR ι v v':=by
 have get: ∀ (t:Nat) (u:Value),a.tmps[t]? =some u→VR ι u (ac.tmps.getD t undef):=fun t u hu=>by
  obtain ⟨h1,rfl⟩:=Array.getElem?_eq_some_iff.1 hu
  have h2:t<ac.tmps.size:=by rw [←ha.1];exact h1
  have:=ha.2 t h1 h2
  simpa [Array.getD,h2] using this
 cases r with
 |tmp t=>exact ⟨_,rfl,get t v h⟩
 |cell t ty=>
  simp only [xResult] at h
  split at h
  ·rename_i p hp
   obtain ⟨v',h1,h2⟩:=aload_ok hE.C hr h (get t p hp)
   refine ⟨v',?_,h2⟩
   have hpp:=get t p hp
   show (do loadVar ty (←asAddr (ac.tmps.getD t undef)):Sem Value).run E.P w=_
   generalize ac.tmps.getD t undef=q at h1 hpp ⊢
   have: (∃k o,p= .pointer (some ⟨k,o,none⟩))∨ ∃k o,p= .complex .f32 k o:=by
    unfold aload at h
    split at h
    ·exact .inl ⟨_,_,rfl⟩
    ·exact .inr ⟨_,_,rfl⟩
    ·cases h
   rcases this with ⟨k,o,rfl⟩| ⟨k,o,rfl⟩ <;>cases hpp<;>simpa [Instr.loadAt,Instr.sureAddr,asAddr] using h1
  ·cases h
theorem xResults_ok {ι:Emb} {s:AS} {w:World} (hr:Rep E.P E.C.G ι s.mem w) {a ac:Act} (ha:VRs ι a.tmps ac.tmps): ∀ (l:List ResultVar) {vs:List Value},xResults E a s l=some vs→
  ∃vs',(l.mapM (resF ac.tmps)).run E.P w= .ok vs' w∧VRl ι vs vs'
 | [],vs,h=>by
  cases h
  exact ⟨[],by simp,VRl.nil⟩
 |r::l,vs,h=>by
  unfold xResults at h
  split at h
  ·rename_i v us hv hus
   cases h
   obtain ⟨v',h1,h2⟩:=xResult_ok hE hr ha hv
   obtain ⟨us',h3,h4⟩:=xResults_ok hr ha l hus
   refine ⟨v'::us',?_,VRl.cons h2 h4⟩
   rw [List.mapM_cons,Sem.run_bind]
   rw [h1]
   simp only [Result.andThen,Sem.run_bind,h3,Sem.run_pure]
  ·cases h
theorem results_ok {ι:Emb} {s:AS} {w:World} (hr:Rep E.P E.C.G ι s.mem w) {a ac:Act} (ha:VRs ι a.tmps ac.tmps) {fn:Func} {vs:List Value} (h:xResults E a s fn.results.toList=some vs):
  ∃v',(results fn ac.tmps).run E.P w= .ok v' w∧VR ι (packV vs) v':=by
 obtain ⟨vs',h1,h2⟩:=xResults_ok hE hr ha _ h
 have key: (results fn ac.tmps).run E.P w= .ok (if h:vs'.toArray.size=1 then vs'.toArray[0] else .tuple vs'.toArray) w:=by
  rw [results_eq,Array.mapM_eq_mapM_toList,Sem.run_bind]
  have e: (Functor.map List.toArray (fn.results.toList.mapM (resF ac.tmps))).run E.P w= .ok vs'.toArray w:=by
   rw [map_eq_pure_bind,Sem.run_bind,h1]
   rfl
  rw [e]
  rfl
 refine ⟨_,key,?_⟩
 obtain ⟨hl,hv⟩:=h2
 cases vs with
 |nil=>
  have:vs'= [] :=List.eq_nil_of_length_eq_zero hl.symm
  subst this
  exact .tuple rfl (fun i hi=>absurd hi (Nat.not_lt_zero _))
 |cons v vs=>
  cases vs' with
  |nil=>simp at hl
  |cons v' vs'=>
   cases vs with
   |nil=>
    have:vs'= [] :=List.eq_nil_of_length_eq_zero (by simpa using hl.symm)
    subst this
    exact hv 0 v v' rfl rfl
   |cons u us=>
    cases vs' with
    |nil=>simp at hl
    |cons u' us'=>
     have:=VRl.s ⟨hl,hv⟩
     simp only [packV]
     rw [dif_neg (by simp)]
     exact .tuple this.1 this.2
end
end
end Go.Proofs.YtdcioacjhpnihaaGreatDoor
namespace Go.Proofs.YtdcioacjhpnihaaGreatDoor
open Go
noncomputable section
def XS (E:Env) (xc:XC):Prop:= ∀ro c a s e a' s',xc ro c a s=some (e,a',s')→ ∀ (ι:Emb) (w:World) (ac:Act) (ro':Option Nat) (n:Nat),Rep E.P E.C.G ι s.mem w→AR ι a ac→roR ι ro ro'→ ∀Q:Exit→Act→World→Prop,
 (∀ι' w' ac',Tr E.P E.C.G ι s.mem w ι' s'.mem w'→AR ι' a' ac'→Q e.ex ac' w')→c.wpIn (frF ro') n E.P Q ac w
section
variable {E:Env} (hE:E.Ok) {xc:XC} (hx:XS E xc)
include hE
theorem xDefers_ok {n:Nat} {fn:Func} {tmps:Array Value} {R:Ending→World→Prop}: ∀ (ds:List Deferred) {s s':AS},xDefers E ds s=some s'→ ∀ {ι:Emb} {w:World} {ds':List Deferred},Rep E.P E.C.G ι s.mem w→DRs ι ds ds'→
  (∀w',Tr E.P E.C.G ι s.mem w ι s'.mem w'→ ∃v,(results fn tmps).run E.P w'= .ok v w'∧R (.returned v) w')→LeavesInM Fence.wide n E.P fn tmps R ds' .returning w
 | [],s,s',h,ι,w,ds',hr,hd,hR=>by
  cases h
  cases ds' with
  |nil=>
   exact hR w (Tr.refl hr)
  |cons _ _=>exact hd.elim
 |d::ds,s,s',h,ι,w,ds',hr,hd,hR=>by
  cases ds' with
  |nil=>exact hd.elim
  |cons d' ds'=>
   obtain ⟨hd1,hd2⟩:=hd
   obtain ⟨t,as⟩:=d
   obtain ⟨t',as'⟩:=d'
   unfold xDefers at h
   simp only at h
   split at h
   ·rename_i r
    split at h
    ·rename_i hget
     split at h
     ·rename_i s1 hput
      cases t' with
      |collected r'=>
       have hb:ι.b r=some r':=hd1
       obtain ⟨b,o',e1,hw,hob⟩:=hr.obj r _ hget
       rw [hb] at e1
       cases e1
       have ho':o'= .deferred (some []):=by
        have hob:objR0 E.P ι (ι.x r) (.deferred (some [])) o':=hob
        unfold objR0 at hob
        split at hob<;>simp_all
       subst ho'
       have ht:Tr E.P E.C.G ι s.mem w ι s1.mem (w.putObj r' (.deferred none)):=Tr.set hr (o:= .deferred none) (o':= .deferred none) (by show s.h.get r≠none;rw [hget];exact fun e=>by cases e) hb (aput_get hput) (aput_n hput) rfl rfl rfl (by simp) (World.putObj_heap_same (Array.getElem?_eq_some_iff.1 hw).1) (fun j hj=>World.putObj_heap_other hj) trivial
       refine ⟨by simp, .inl ⟨r',_,rfl,run_takeDeferred hw,?_⟩⟩
       exact xDefers_ok ds h ht.rep hd2 fun w' ht'=>hR w' (ht.trans ht')
      |_=>exact hd1.elim
     ·cases h
    ·cases h
   ·rename_i g cap
    split at h
    ·rename_i hq
     simp only [Bool.and_eq_true,Array.isEmpty_iff] at hq
     obtain ⟨hq1,rfl⟩:=hq
     split at h
     ·rename_i k hargs
      cases t' with
      |fn f' cap'=>
       cases f' with
       |func g'=>
        obtain ⟨rfl,hcap,hargs'⟩:g'=g∧VRs ι #[] cap'∧VRs ι as as':=hd1
        have hc0:cap'= #[] :=Array.eq_empty_of_size_eq_zero hcap.1.symm
        subst hc0
        obtain ⟨b,hb⟩: ∃b,as'= #[.pointer (some ⟨b,0,none⟩)] :=by
         have hl:=VRl.of_s hargs'
         rw [hargs] at hl
         obtain ⟨l⟩:=as'
         match l,hl with
         | [x],hl=>
          have:=hl.2 0 _ _ rfl rfl
          cases this
          exact ⟨_,rfl⟩
         | [],hl=>exact absurd hl.1 (by simp)
         |_::_::_,hl=>exact absurd hl.1 (by simp)
        subst hb
        obtain ⟨c1,c2⟩:=hE.quiet g' hq1
        refine ⟨by simp, .inr ⟨(fun e=>by cases e), .func g', #[],g', #[.pointer (some ⟨b,0,none⟩)],rfl,?_,fun _ _=>trivial,?_⟩⟩
        ·have:=c1 #[.pointer (some ⟨b,0,none⟩)] w
         simpa [invoke] using this
        ·refine (c2 (n-1) w b).mono ?_
         rintro e u w' ⟨rfl,⟨v,rfl⟩,rfl⟩
         exact xDefers_ok ds h hr hd2 hR
       |_=>exact hd1.elim
      |_=>exact hd1.elim
     ·cases h
    ·cases h
   ·cases h
include hx in
theorem xBody_ok {f:FuncId} {fn:Func} {c:Code} (hf:E.P.funcs[f]? =some fn) (hb:fn.body=some c) {args:List Value} {s s':AS} {v:Value} (h:xBody E xc fn c args s=some (v,s')) {ι:Emb} {w:World} {args':List Value} (hr:Rep E.P E.C.G ι s.mem w) (ha:VRl ι args args'):
  Calls E.P f args'.toArray w fun e w'=> ∃ι' v',e= .returned v'∧Tr E.P E.C.G ι s.mem w ι' s'.mem w'∧VR ι' v v':=by
 have hinit:AR ι ⟨args.toArray++Array.replicate (fn.ntmps-args.length) undef, []⟩ ⟨args'.toArray++Array.replicate (fn.ntmps-args'.toArray.size) undef, []⟩:=by
  refine ⟨?_,trivial⟩
  have e: (args'.toArray++Array.replicate (fn.ntmps-args'.toArray.size) undef)=(args'++List.replicate (fn.ntmps-args.length) undef).toArray:=by simp [ha.1]
  have e2: (args.toArray++Array.replicate (fn.ntmps-args.length) undef)=(args++List.replicate (fn.ntmps-args.length) undef).toArray:=by simp
  show VRs ι _ _
  simp only
  rw [e,e2]
  exact (ha.append ⟨by simp,fun i a b h1 h2=>by
   rw [h1] at h2
   cases h2
   have:=List.eq_of_mem_replicate (List.mem_of_getElem? h1)
   rw [this]
   exact VR.undef' ι⟩).s
 refine callsIn_wide.1 (callsIn_of_wp_marks (n:=5) hf hb trivial ?_ rfl)
 unfold xBody at h
 split at h
 ·cases h
 ·rename_i e a1 s1 hne hxc
  refine hx none c _ _ _ _ _ hxc ι w _ none 5 hr hinit trivial _ fun ι' w' ac' ht har=> ?_
  have fin:LeavesInM Fence.wide 5 E.P fn ac'.tmps (fun e w'=> ∃ι' v',e= .returned v'∧Tr E.P E.C.G ι s.mem w ι' s'.mem w'∧VR ι' v v') ac'.defers .returning w':=by
   split at h
   ·rename_i s2 hd
    split at h
    ·rename_i vs hvs
     cases h
     refine xDefers_ok hE _ hd ht.rep har.d fun w2 ht2=> ?_
     obtain ⟨v',h1,h2⟩:=results_ok hE ht2.rep har.t hvs
     exact ⟨v',h1,ι',v',rfl,ht.trans ht2,h2⟩
    ·cases h
   ·cases h
  cases e with
  |normal=>exact fin
  |ret=>exact fin
  |exit id=>exact (hne id rfl).elim
 ·cases h
include hx in
theorem xCall_ok {f:FuncId} {args:List Value} {s s':AS} {v:Value} (h:xCall E xc f args s=some (v,s')): (∀args w,(callFunc f args).run E.P w= .ok (.enter f args) w)∧ ∀ {ι:Emb} {w:World} {args':List Value},Rep E.P E.C.G ι s.mem w→VRl ι args args'→
  Calls E.P f args'.toArray w fun e w'=> ∃ι' v',e= .returned v'∧Tr E.P E.C.G ι s.mem w ι' s'.mem w'∧VR ι' v v':=by
 unfold xCall at h
 split at h
 ·rename_i r hr
  cases h
  obtain ⟨h1,h2⟩:=hE.orc f args s v s' hr
  exact ⟨h1,fun hr ha=>h2 _ _ _ hr ha⟩
 ·split at h
  ·rename_i fn hfn
   obtain ⟨h1,h2⟩:=hE.fns f fn hfn
   split at h
   ·rename_i c hc
    exact ⟨h2,fun hr ha=>xBody_ok hE hx h1 hc h hr ha⟩
   ·cases h
  ·cases h
end
end
end Go.Proofs.YtdcioacjhpnihaaGreatDoor
namespace Go.Proofs.YtdcioacjhpnihaaGreatDoor
open Go
noncomputable section
theorem callsF {P:Program} {f:FuncId} {args:Array Value} {w:World} {R:Ending→World→Prop} (h:Calls P f args w R) (r:Option Nat) (n:Nat):CallsIn (frF r) n P f args w R:=by
 cases r with
 |none=>exact callsIn_wide.2 h
 |some l=>exact CallsIn.inRound l (callsIn_wide.2 h)
theorem loop_of {P:Program} {ι:Emb} {x:Nat} {r:Loop} {o':Obj} (h:objR P ι x (.loop r) o'): ∃r',o'= .loop r'∧r'.state=r.state∧r'.pending=r.pending∧VRs ι r.tmps r'.tmps∧r'.params=r.params∧r'.assign=r.assign∧r'.body=r.body∧ι.b r.defers=some r'.defers:=by
 cases o' with
 |loop r'=>
  obtain ⟨h1,h2,h3,h4,h5,h6,h7⟩:=h
  exact ⟨r',rfl,h1,h2,h3,h4,h5,h6,h7⟩
 |_=>exact h.elim
theorem setAll_rel {ι:Emb}: ∀ (ps:List Tmp) (vs vs':List Value) (t t':Array Value),VRl ι vs vs'→VRs ι t t'→VRs ι (setAll t (ps.zip vs)) ((ps.zip vs').foldl (fun t (x:Tmp × Value)=>t.setIfInBounds x.1 x.2) t')
 | [],vs,vs',t,t',hv,ht=>by simpa [setAll] using ht
 |p::ps, [],vs',t,t',hv,ht=>by
  have:vs'= [] :=List.eq_nil_of_length_eq_zero hv.1.symm
  subst this
  simpa [setAll] using ht
 |p::ps,v::vs,vs',t,t',hv,ht=>by
  cases vs' with
  |nil=>exact absurd hv.1 (by simp)
  |cons v' vs'=>
   simp only [List.zip_cons_cons,setAll,List.foldl_cons]
   refine setAll_rel ps vs vs' _ _ ⟨by have:=hv.1;simpa using this,fun i a b h1 h2=>hv.2 (i+1) a b (by simpa using h1) (by simpa using h2)⟩ ⟨by simp [ht.1],fun i h1 h2=> ?_⟩
   simp only [Array.size_setIfInBounds] at h1 h2
   rw [Array.getElem_setIfInBounds h1,Array.getElem_setIfInBounds h2]
   split
   ·exact hv.2 0 v v' rfl rfl
   ·exact ht.2 i h1 h2
section
variable {E:Env} (hE:E.Ok) {xc:XC} (hx:XS E xc)
theorem putLoop {ι:Emb} {s s':AS} {w:World} (hr:Rep E.P E.C.G ι s.mem w) {l l':Nat} {r r2:Loop} (hget:s.h.get l=some (.loop r)) (hb:ι.b l=some l') (hput:aput s l (some (.loop r2))=some s') {r' r2':Loop} (hw:w.heap[l']? =some (.loop r'))
  (h:objR E.P ι (ι.x l) (.loop r2) (.loop r2')):Tr E.P E.C.G ι s.mem w ι s'.mem (w.putObj l' (.loop r2')):=
 Tr.set hr (by show s.h.get l≠none;rw [hget];exact fun e=>by cases e) hb (aput_get hput) (aput_n hput) rfl rfl rfl (by simp) (World.putObj_heap_same (Array.getElem?_eq_some_iff.1 hw).1) (fun j hj=>World.putObj_heap_other hj) h
include hx in
theorem xRound_ok {l l':Nat} {args args':List Value} {s s':AS} {v:Value} (h:xRound xc l args s=some (v,s')) {ι:Emb} {w:World} (hr:Rep E.P E.C.G ι s.mem w) (ha:VRl ι args args') (hb:ι.b l=some l') (ro:Option Nat) (n:Nat):
  ∃fn tmps assign body,(Instr.yield l' args'.toArray).run E.P w= .ok (.round l' fn tmps assign body) w∧RoundIn (frF ro) n E.P l' fn tmps assign body w fun e w'=> ∃ι' v',e= .returned v'∧Tr E.P E.C.G ι s.mem w ι' s'.mem w'∧VR ι' v v':=by
 unfold xRound at h
 split at h
 ·rename_i r hget
  obtain ⟨b,o',e1,hw,hob⟩:=hr.obj l _ hget
  rw [hb] at e1
  cases e1
  obtain ⟨r',rfl,q1,q2,q3,q4,q5,q6,q7⟩:=loop_of hob
  split at h
  ·rename_i hlen
   have hy:=run_yield (P:=E.P) (args:=args'.toArray) hw (by rw [q4];simp;rw [←ha.1];exact hlen)
   refine ⟨r'.fn,_,r'.assign,r'.body,hy,?_⟩
   split at h
   ·rename_i a1 s1 hxa
    refine roundIn_of_wpIn (frF_fn ro _) ?_
    have hF: (frF ro).inRound l'=frF (some l'):=by cases ro<;>rfl
    rw [hF,q5]
    have hinit:AR ι ⟨setAll r.tmps (r.params.toList.zip args), []⟩ ⟨(r'.params.zip args'.toArray).foldl (fun tmps (t,a)=>tmps.setIfInBounds t a) r'.tmps, []⟩:=by
     refine ⟨?_,trivial⟩
     have:=setAll_rel r.params.toList args args' r.tmps r'.tmps ha q3
     show VRs ι _ _
     simp only
     rw [q4, ←Array.foldl_toList,Array.toList_zip]
     exact this
    refine hx (some l) r.assign _ _ _ _ _ hxa ι w _ (some l') n hr hinit hb _ fun ι1 w1 ac1 ht1 har1=> ?_
    show ∃w₂,_∧_
    split at h
    ·rename_i r1 hget1
     have hb1:=(ht1.le l l' hb).1
     obtain ⟨b1,o1',e1,hw1,hob1⟩:=ht1.rep.obj l _ hget1
     rw [hb1] at e1
     cases e1
     obtain ⟨r1',rfl,p1,p2,p3,p4,p5,p6,p7⟩:=loop_of hob1
     split at h
     ·rename_i hst
      split at h
      ·rename_i s2 hput
       have hbr:=run_beginRound (P:=E.P) hw1 (by rw [p1];exact hst)
       refine ⟨_,hbr,?_⟩
       have ht2:=putLoop ht1.rep hget1 hb1 hput (r2':= {r1' with state:= .busy}) hw1 ⟨rfl,p2,p3,p4,p5,p6,p7⟩
       split at h
       ·rename_i e a2 s3 hxb
        rw [q6]
        refine hx (some l) r.body _ _ _ _ _ hxb ι1 _ ac1 (some l') n ht2.rep (har1.mono ht2.le) hb1 _ fun ι3 w3 ac3 ht3 har3=> ?_
        split at h
        ·rename_i r3 hget3
         have hb3:=(ht3.le l l' hb1).1
         obtain ⟨b3,o3',e3,hw3,hob3⟩:=ht3.rep.obj l _ hget3
         rw [hb3] at e3
         cases e3
         obtain ⟨r3',rfl,u1,u2,u3,u4,u5,u6,u7⟩:=loop_of hob3
         split at h
         ·rename_i s4 hput4
          cases h
          have hend:=run_endRound (P:=E.P) (jumpOf e) hw3
          have ht4:=putLoop ht3.rep hget3 hb3 hput4 (r2':= {r3' with state:=if (jumpOf e).isNone then .ready else .done,pending:=jumpOf e}) hw3 ⟨rfl,rfl,u3,u4,u5,u6,u7⟩
          have res: ∃v w',(Instr.endRound l' (jumpOf e)).run E.P w3= .ok v w'∧ ∃ι' v',(Ending.returned v)= .returned v'∧Tr E.P E.C.G ι s.mem w ι' s'.mem w'∧VR ι' (.bool (jumpOf e).isNone) v':=
           ⟨_,_,hend,ι3,_,rfl,((ht1.trans ht2).trans ht3).trans ht4, .bool _⟩
          cases e with
          |normal=>exact res
          |ret=>exact res
          |exit id=>exact res
         ·cases h
        ·cases h
       ·cases h
      ·cases h
     ·cases h
    ·cases h
   ·cases h
  ·cases h
 ·cases h
include hE hx in
theorem xOp_ok (ro:Option Nat) (n:Nat) {o:Oper} {a:Act} {s s':AS} {v:Value} (h:xOp E xc o a s=some (v,s')):OpT (frF ro) n E.P E.C o a s.mem v s'.mem:=by
 have plain: (∀c,o.op≠ .defer c)→aop E.C E.P s a o=some (v,s')→OpT (frF ro) n E.P E.C o a s.mem v s'.mem:=fun hnd h ι w ac hr ho K Q hK=>by
  obtain ⟨ι',w',nx,v',e1,e2,e3,e4⟩:=aop_ok hE.C hr ho h
  rcases e2 with rfl | ⟨rfl,rfl⟩
  ·exact wpIn_val (frF_fn ro) hnd e1 (hK ι' w' v' e3 e4)
  ·unfold Oper.wpIn
   refine ⟨fun g _=>frF_fn ro g,?_⟩
   rw [Oper.semAt_eq _ _ _ hnd,e1]
   exact hK ι' w' _ e3 e4
 obtain ⟨dst,op,ty,pos,aft,gd⟩:=o
 unfold xOp at h
 split at h
 ·rename_i c hc
  simp only at hc
  subst hc
  split at h
  ·rename_i x hx0
   obtain ⟨callee,args,ats⟩:=c
   simp only at hx0 h
   subst hx0
   intro ι w ac hr ho K Q hK
   have hop: ∀y∈args.toList, ∀u,aev E.C a y=some u→VR ι u (ac.eval y):=fun y hy=>ho y (by simp only [Op.operands,Call.operands,Array.mem_append];exact .inr (Array.mem_toList_iff.1 hy))
   have hxv: ∀u,aev E.C a x=some u→VR ι u (ac.eval x):=fun u hu=>ho x (by simp [Op.operands,Call.operands]) u hu
   split at h
   ·rename_i f fs cap vs hv hvs
    obtain ⟨fs',cap',e,hfs,hcap⟩: ∃fs' cap',ac.eval x= .func (.func f) fs' cap'∧VRs ι fs fs'∧VRs ι cap cap':=by
     have:=hxv _ hv
     generalize ac.eval x=q at this
     cases this with
     |func _ hb1 hb2 h1 h2=>exact ⟨_,_,rfl,⟨hb1,hb2⟩,h1,h2⟩
    have hargs:VRl ι (fs.toList++vs++cap.toList) (fs'.toList++args.toList.map ac.eval++cap'.toList):=((VRl.of_s hfs).append (aevs_ok args.toList vs hop hvs)).append (VRl.of_s hcap)
    have hex: (execOp ac.eval ⟨dst, .call ⟨.value x,args,ats⟩,ty,pos,aft,gd⟩).run E.P w=(callFunc f (fs'.toList++args.toList.map ac.eval++cap'.toList).toArray).run E.P w:=by
     have: (fs'++args.map ac.eval++cap')=(fs'.toList++args.toList.map ac.eval++cap'.toList).toArray:=by apply Array.ext';simp
     simp only [execOp,resolve,e,Deferred.ofValue,invoke]
     rw [←this]
     simp [invoke]
    split at h
    ·rename_i r hre
     cases h
     obtain ⟨ι',w',v',e1,e2,e3⟩:=hE.ext _ _ _ _ _ hre ι w _ hr hargs
     exact wpIn_val (frF_fn ro) (by simp) (hex.trans e1) (hK ι' w' v' e2 e3)
    ·obtain ⟨h1,h2⟩:=xCall_ok hE hx h
     unfold Oper.wpIn
     refine ⟨fun g _=>frF_fn ro g,?_⟩
     rw [Oper.semAt_eq _ _ _ (by simp),hex,h1]
     refine ⟨(fun e=>by rw [frF_depth] at e;cases e),(callsF (h2 hr hargs) ro (n-1)).mono ?_⟩
     rintro e w' ⟨ι',v',rfl,ht,hv'⟩
     exact hK ι' w' v' ht hv'
   ·rename_i l fs cap vs hv hvs
    obtain ⟨l',e,hb⟩: ∃l',ac.eval x= .func (.yield l') #[] #[] ∧ι.b l=some l':=by
     have:=hxv _ hv
     generalize ac.eval x=q at this
     cases this with
     |yield hb=>exact ⟨_,rfl,hb⟩
    obtain ⟨fn,tmps,assign,body,hy,hR⟩:=xRound_ok hx h hr (aevs_ok args.toList vs hop hvs) hb ro (n-1)
    have hex: (execOp ac.eval ⟨dst, .call ⟨.value x,args,ats⟩,ty,pos,aft,gd⟩).run E.P w=(Instr.yield l' (args.toList.map ac.eval).toArray).run E.P w:=by
     have:args.map ac.eval=(args.toList.map ac.eval).toArray:=by apply Array.ext';simp
     simp [execOp,resolve,e,Deferred.ofValue,invoke,this]
    unfold Oper.wpIn
    refine ⟨fun g _=>frF_fn ro g,?_⟩
    rw [Oper.semAt_eq _ _ _ (by simp),hex,hy]
    refine ⟨(fun e=>by rw [frF_depth] at e;cases e),hR.mono ?_⟩
    rintro e w' ⟨ι',v',rfl,ht,hv'⟩
    exact hK ι' w' v' ht hv'
   ·cases h
  ·exact plain (by simp) h
  ·cases h
 ·rename_i hnc
  refine plain (fun c e=> ?_) h
  simp only at e
  subst e
  simp only [aop] at h
  split at h
  ·unfold mop at h
   split at h<;>first | (cases h;done)|simp_all
  ·cases h
theorem xBlock_ok {ro:Option Nat} {s s1:AS} {d:Nat} {mark:List Deferred} (h:xBlock ro s=some (d,mark,s1)) {ι:Emb} {w:World} (hr:Rep E.P E.C.G ι s.mem w) {ro':Option Nat} (hro:roR ι ro ro') (fn:FuncId) (tmps:Array Value) (ps:Array Tmp) (assign body:Code):
  ∃ι1 w1 d' mark',Tr E.P E.C.G ι s.mem w ι1 s1.mem w1∧ι1.b d=some d'∧DRs ι1 mark mark'∧
   (Instr.enterLoop fn tmps ps assign body (frF ro').round).run E.P w= .ok (w1.heap.size,mark') (w1.alloc (.loop {state:= .ready,pending:=none,fn,tmps,params:=ps,assign,body,defers:=d'})):=by
 cases ro with
 |none=>
  cases ro' with
  |some _=>exact hro.elim
  |none=>
   simp only [xBlock] at h
   split at h
   ·rename_i d0 s' hnew
    cases h
    obtain ⟨rfl,hn,hg⟩:=anew_ok hnew
    refine ⟨ι.add s.n w.heap.size 0,w.alloc (.deferred (some [])),w.heap.size, [⟨.collected w.heap.size, #[]⟩],Tr.new hr (Nat.le_refl _) hg (by show s.n<s1.n;omega) trivial,Emb.add_b ..,⟨Emb.add_b ..,trivial⟩,?_⟩
    have:=run_enterLoop_outer (P:=E.P) (w:=w) fn tmps ps assign body
    simpa [frF,Fence.wide] using this
   ·cases h
 |some l=>
  cases ro' with
  |none=>exact hro.elim
  |some l'=>
   simp only [xBlock] at h
   split at h
   ·rename_i r hget
    cases h
    obtain ⟨b,o',e1,hw,hob⟩:=hr.obj l _ hget
    rw [show ι.b l=some l' from hro] at e1
    cases e1
    obtain ⟨r',rfl,q1,q2,q3,q4,q5,q6,q7⟩:=loop_of hob
    exact ⟨ι,w,r'.defers, [],Tr.refl hr,q7,trivial,run_enterLoop_inner hw fn tmps ps assign body⟩
   ·cases h
theorem DRs.append {ι:Emb}: ∀ {a a' b b':List Deferred},DRs ι a a'→DRs ι b b'→DRs ι (a++b) (a'++b')
 | [], [],_,_,_,h=>h
 |_::_,_::_,_,_,h,k=>⟨h.1,DRs.append h.2 k⟩
 | [],_::_,_,_,h,_=>h.elim
 |_::_, [],_,_,h,_=>h.elim
include hE hx in
theorem xRange_ok {ro:Option Nat} {g:Operand} {ps:Array Tmp} {assign body:Code} {a a':Act} {s s':AS} {e:AX} (h:xRange E xc ro g ps assign body a s=some (e,a',s')) {ι:Emb} {w:World} {ac:Act} (hr:Rep E.P E.C.G ι s.mem w) (ha:AR ι a ac) {ro':Option Nat} (hro:roR ι ro ro') (n:Nat) {Q:Exit→Act→World→Prop}
  (hQ: ∀ι' w' ac',Tr E.P E.C.G ι s.mem w ι' s'.mem w'→AR ι' a' ac'→Q e.ex ac' w'): (Code.rangeFunc g ps assign body).wpIn (frF ro') n E.P Q ac w:=by
 unfold xRange at h
 split at h
 ·rename_i d mark s1 hblk
  split at h
  ·rename_i l s2 hnew
   split at h
   ·rename_i gf fs cap hg
    split at h
    ·split at h
     ·rename_i v3 s3 hcall
      split at h
      ·rename_i r hget
       split at h
       ·rename_i hst
        split at h
        ·rename_i s4 hput
         refine wpIn_rangeFunc fun fn _=> ?_
         obtain ⟨ι1,w1,d',mark',ht1,hd,hmk,hrun⟩:=xBlock_ok hblk hr hro fn ac.tmps ps assign body
         unfold anew at hnew
         have hnew':anew s1 (.loop {state:= .ready,pending:=none,fn:=0,tmps:=a.tmps,params:=ps,assign,body,defers:=d})=some (l,s2):=hnew
         obtain ⟨rfl,hn,hgt⟩:=anew_ok hnew'
         have hl1:ι1.le (ι1.add s1.n w1.heap.size 0):=Emb.le_add (ht1.rep.new _ (Nat.le_refl _))
         have ht2:Tr E.P E.C.G ι1 s1.mem w1 (ι1.add s1.n w1.heap.size 0) s2.mem (w1.alloc (.loop {state:= .ready,pending:=none,fn,tmps:=ac.tmps,params:=ps,assign,body,defers:=d'})):=
          Tr.new ht1.rep (Nat.le_refl _) hgt (by show s1.n<s2.n;omega) ⟨rfl,rfl,(ha.t.mono ht1.le).mono hl1,rfl,rfl,rfl,(hl1 _ _ hd).1⟩
         obtain ⟨ι2,w2,hι2,hw2⟩: ∃ι2 w2,ι2=ι1.add s1.n w1.heap.size 0∧w2=w1.alloc (.loop {state:= .ready,pending:=none,fn,tmps:=ac.tmps,params:=ps,assign,body,defers:=d'}):=⟨_,_,rfl,rfl⟩
         rw [←hι2, ←hw2] at ht2
         rw [←hw2] at hrun
         have hbl:ι2.b s1.n=some w1.heap.size:=by rw [hι2];exact Emb.add_b ..
         have hle2:ι.le ι2:=ht1.le.trans ht2.le
         obtain ⟨cap',eg,hcap⟩: ∃cap',ac.eval g= .func (.func gf) #[] cap'∧VRs ι cap cap':=by
          have:=ha.opv hr g _ hg
          generalize ac.eval g=q at this
          cases this with
          |func _ hb1 hb2 h1 h2=>
           have hf0:fs= #[] :=by simpa using ‹fs.isEmpty=true›
           subst hf0
           have:=Array.eq_empty_of_size_eq_zero hb1.symm
           subst this
           exact ⟨_,rfl,h1,h2⟩
         obtain ⟨c1,c2⟩:=xCall_ok hE hx hcall
         have hargs:VRl ι2 (.func (.yield s1.n) #[] #[] ::cap.toList) (.func (.yield w1.heap.size) #[] #[] ::cap'.toList):=VRl.cons (.yield hbl) (VRl.of_s (hcap.mono hle2))
         refine ⟨w1.heap.size,mark',w2,{target:= .fn (.func gf) cap',args:= #[.func (.yield w1.heap.size) #[] #[]]},w2,gf,(.func (.yield w1.heap.size) #[] #[] ::cap'.toList).toArray,w2,hrun,?_,fun _ _=>frF_fn ro' _,?_,(fun e=>by rw [frF_depth] at e;cases e),?_⟩
         ·simp only [resolve,eg]
          simp [Deferred.ofValue,Act.eval]
         ·have e2: (#[Value.func (.yield w1.heap.size) #[] #[]] ++cap')=(Value.func (.yield w1.heap.size) #[] #[] ::cap'.toList).toArray:=by apply Array.ext';simp
          simp only [invoke]
          rw [e2]
          exact c1 _ _
         ·refine (callsF (c2 ht2.rep hargs) ro' (n-1)).mono ?_
          rintro e3 w3 ⟨ι3,v',rfl,ht3,_⟩
          have hb3:=(ht3.le _ _ hbl).1
          obtain ⟨b3,o3',q1,hw3,hob3⟩:=ht3.rep.obj _ _ hget
          rw [hb3] at q1
          cases q1
          obtain ⟨r',rfl,u1,u2,u3,u4,u5,u6,u7⟩:=loop_of hob3
          have hend:=run_endLoop (P:=E.P) hw3 (by rw [u1];exact hst)
          have ht4:=putLoop ht3.rep hget hb3 hput (r2':= {r' with state:= .exhausted}) hw3 ⟨rfl,u2,u3,u4,u5,u6,u7⟩
          have htr:=((ht1.trans ht2).trans ht3).trans ht4
          have har:AR ι3 {a with defers:=mark++a.defers} {ac with defers:=mark'++ac.defers}:=⟨ha.t.mono htr.le,DRs.append (hmk.mono (ht2.le.trans ht3.le)) (ha.d.mono htr.le)⟩
          refine ⟨r'.pending,_,hend,?_⟩
          clear hend ht4
          generalize w3.putObj w1.heap.size (.loop {r' with state:= .exhausted})=w4 at htr ⊢
          rw [u2]
          split at h
          ·rename_i hp
           cases h
           rw [hp]
           exact hQ ι3 _ _ htr har
          ·rename_i hp
           cases h
           rw [hp]
           exact wpIn_ret (hQ ι3 _ _ htr har)
          ·rename_i id hp
           cases h
           rw [hp]
           exact wpIn_exit (hQ ι3 _ _ htr har)
          ·cases h
        ·cases h
       ·cases h
      ·cases h
     ·cases h
    ·cases h
   ·cases h
  ·cases h
 ·cases h
end
end
end Go.Proofs.YtdcioacjhpnihaaGreatDoor
namespace Go.Proofs.YtdcioacjhpnihaaGreatDoor
open Go
noncomputable section
theorem wpIn_scope {F:Fence} {n:Nat} {P:Program} {Q:Exit→Act→World→Prop} {a:Act} {w:World} {c:Code} (h:c.wpIn F n P (fun e a w=>(∀l,e≠ .goto l)∧Q e a w) a w): (Code.scope c).wpIn F n P Q a w:=by
 intro b k cs hro hb hr
 have h0: (lone (b.atR a (.code (.scope c)::k)) cs w).fenced P F:=fenced_calm hb hr rfl
 have s1:step P (lone (b.atR a (.code (.scope c)::k)) cs w)= .next (lone (b.atR a (.code c:: .inScope c::k)) cs w):=step_lone_go (by simp [stepG,stepG.exec,Frame.atR])
 obtain ⟨e,a₁,w₁,⟨hng,hq⟩,harr⟩:=h b (.inScope c::k) cs hro hb hr
 have s2:step P (lone (b.atR a₁ (.inScope c::k)) cs w₁)= .next (lone (b.atR a₁ k) cs w₁):=step_lone_go (by simp [stepG,stepG.exec,Frame.atR])
 cases e with
 |normal=>exact ⟨.normal,a₁,w₁,hq, .head h0 s1 (StepsIn.trans harr (.one (fenced_calm hb hr rfl) s2))⟩
 |exit id=>
  have hx:exitTo id (.inScope c::k)=exitTo id k:=by simp [exitTo]
  exact ⟨.exit id,a₁,w₁,hq,fun k' hk=> .head h0 s1 (harr.1 k' (by rw [hx];exact hk)),
   fun hr' hk=>let ⟨k₁,h1,h2⟩:=harr.2 hr' (by rw [hx];exact hk); ⟨k₁,h1, .head h0 s1 h2⟩⟩
 |goto l=>exact absurd rfl (hng l)
 |ret=>exact ⟨_,a₁,w₁,hq, .of_steps (.one h0 s1) harr⟩
 |panic ch=>exact ⟨_,a₁,w₁,hq, .of_steps (.one h0 s1) harr⟩
 |outgrown=>exact ⟨_,a₁,w₁,hq, .of_steps (.one h0 s1) harr⟩
theorem wpIn_loop_ix {F:Fence} {n:Nat} {P:Program} {Q:Exit→Act→World→Prop} {a:Act} {w:World} {c:Code} (I:Nat→Act→World→Prop) (N:Nat) (h₀:I N a w)
  (round: ∀j a w,I j a w→c.wpIn F n P (Exit.then (fun a' w'=> ∃i,i<j∧I i a' w') Q) a w): (Code.loop c).wpIn F n P Q a w:=by
 intro b k cs hro hb hr
 have key: ∀j a w,I j a w→ ∃e a' w',Q e a' w'∧ArrivesIn (Machine.fenced P F) P (lone (b.atR a (.code c:: .inLoop c::k)) cs w) b k cs e a' w':=by
  intro j
  induction j using Nat.strongRecOn with
  |_ j ih=>
   intro a w hI
   obtain ⟨e,a₁,w₁,hq,harr⟩:=round j a w hI b (.inLoop c::k) cs hro hb hr
   cases e with
   |normal=>
    obtain ⟨i,hlt,hI₁⟩:=hq
    obtain ⟨e₂,a₂,w₂,hq₂,harr₂⟩:=ih i hlt a₁ w₁ hI₁
    exact ⟨e₂,a₂,w₂,hq₂, .of_steps (StepsIn.trans harr (.one (fenced_calm hb hr rfl) stepR_inLoop)) harr₂⟩
   |exit id=>exact ⟨_,a₁,w₁,hq, .pass (x:= .inLoop c) rfl (fun _ _=> .inl (by simp)) harr⟩
   |goto l=>exact ⟨_,a₁,w₁,hq, .pass (x:= .inLoop c) rfl (fun _ _=> .inl (by simp)) harr⟩
   |ret=>exact ⟨_,a₁,w₁,hq, .pass (x:= .inLoop c) rfl (fun _ _=> .inl (by simp)) harr⟩
   |panic ch=>exact ⟨_,a₁,w₁,hq, .pass (x:= .inLoop c) rfl (fun _ _=> .inl (by simp)) harr⟩
   |outgrown=>exact ⟨_,a₁,w₁,hq, .pass (x:= .inLoop c) rfl (fun _ _=> .inl (by simp)) harr⟩
 obtain ⟨e,a',w',hq,harr⟩:=key N a w h₀
 exact ⟨e,a',w',hq, .of_steps (.one (fenced_calm hb hr rfl) stepR_loop) harr⟩
section
variable {E:Env} (hE:E.Ok)
include hE
theorem xCode_ok: ∀N,XS E (xCode E N):=by
 intro N
 induction N using Nat.strongRecOn with
 |_ N ih=>
 cases N with
 |zero=>intro ro c a s e a' s' h;cases h
 |succ N=>
  have ih1:XS E (xCode E N):=ih N (Nat.lt_succ_self N)
  intro ro c a s e a' s' h ι w ac ro' n hr ha hro Q hQ
  cases c with
  |skip=>cases h;exact wpIn_skip (hQ ι w ac (Tr.refl hr) ha)
  |label l=>cases h;exact wpIn_label (hQ ι w ac (Tr.refl hr) ha)
  |scope c=>
   refine wpIn_scope (ih1 ro c a s _ _ _ h ι w ac ro' n hr ha hro _ fun ι1 w1 ac1 ht har=>⟨fun l=> ?_,hQ ι1 w1 ac1 ht har⟩)
   cases e<;>simp [AX.ex]
  |exit id=>cases h;exact wpIn_exit (hQ ι w ac (Tr.refl hr) ha)
  |ret=>cases h;exact wpIn_ret (hQ ι w ac (Tr.refl hr) ha)
  |seq x y=>
   simp only [xCode] at h
   refine wpIn_seq ?_
   split at h
   ·rename_i a1 s1 hx
    refine ih1 ro x a s _ _ _ hx ι w ac ro' n hr ha hro _ fun ι1 w1 ac1 ht har=> ?_
    exact ih1 ro y a1 s1 _ _ _ h ι1 w1 ac1 ro' n ht.rep har (hro.mono ht.le) _ fun ι2 w2 ac2 ht2 har2=>hQ ι2 w2 ac2 (ht.trans ht2) har2
   ·rename_i hne
    refine ih1 ro x a s _ _ _ h ι w ac ro' n hr ha hro _ fun ι1 w1 ac1 ht har=> ?_
    cases e with
    |normal=>exact (hne a' s' h).elim
    |exit id=>exact hQ ι1 w1 ac1 ht har
    |ret=>exact hQ ι1 w1 ac1 ht har
  |cond c x y=>
   simp only [xCode] at h
   split at h
   ·rename_i b hb
    have hc:ac.eval c= .bool b:=by
     have:=ha.opv hr c _ hb
     generalize ac.eval c=q at this
     cases this
     rfl
    exact wpIn_cond hc (ih1 ro _ a s _ _ _ h ι w ac ro' n hr ha hro _ hQ)
   ·cases h
  |block id c=>
   simp only [xCode] at h
   refine wpIn_block ?_
   split at h
   ·rename_i id' a1 s1 hc
    refine ih1 ro c a s _ _ _ hc ι w ac ro' n hr ha hro _ fun ι1 w1 ac1 ht har=> ?_
    show Exit.inBlock id Q (.exit id') ac1 w1
    simp only [Exit.inBlock]
    split at h
    ·rename_i hid
     cases h
     rw [if_pos hid]
     exact hQ ι1 w1 ac1 ht har
    ·rename_i hid
     cases h
     rw [if_neg hid]
     exact hQ ι1 w1 ac1 ht har
   ·rename_i hne
    refine ih1 ro c a s _ _ _ h ι w ac ro' n hr ha hro _ fun ι1 w1 ac1 ht har=> ?_
    cases e with
    |normal=>exact hQ ι1 w1 ac1 ht har
    |exit id'=>exact (hne id' a' s' h).elim
    |ret=>exact hQ ι1 w1 ac1 ht har
  |loop c=>
   refine wpIn_loop_ix (fun j acj wj=>j≤N+1∧ ∃ιj aj sj,xCode E j ro (.loop c) aj sj=some (e,a',s')∧Tr E.P E.C.G ι s.mem w ιj sj.mem wj∧AR ιj aj acj) (N+1) ⟨Nat.le_refl _,ι,a,s,h,Tr.refl hr,ha⟩ ?_
   rintro j acj wj ⟨hj,ιj,aj,sj,hxj,htj,haj⟩
   cases j with
   |zero=>cases hxj
   |succ j=>
    have ihj:XS E (xCode E j):=ih j (by omega)
    simp only [xCode] at hxj
    split at hxj
    ·rename_i a1 s1 hc
     refine ihj ro c aj sj _ _ _ hc ιj wj acj ro' n htj.rep haj (hro.mono htj.le) _ fun ι1 w1 ac1 ht har=> ?_
     exact ⟨j,Nat.lt_succ_self j,by omega,ι1,a1,s1,hxj,htj.trans ht,har⟩
    ·rename_i hne
     refine ihj ro c aj sj _ _ _ hxj ιj wj acj ro' n htj.rep haj (hro.mono htj.le) _ fun ι1 w1 ac1 ht har=> ?_
     cases e with
     |normal=>exact (hne a' s' hxj).elim
     |exit id=>exact hQ ι1 w1 ac1 (htj.trans ht) har
     |ret=>exact hQ ι1 w1 ac1 (htj.trans ht) har
  |region id ops draw=>
   simp only [xCode] at h
   have hxo: ∀o a s v s',xOp E (xCode E N) o a s=some (v,s')→OpT (frF ro') n E.P E.C o a s.mem v s'.mem:=fun o a s v s' h=>xOp_ok hE ih1 ro' n h
   split at h
   ·rename_i a1 s1 hrun
    cases h
    cases draw with
    |true=>exact xDraw_ok hE.C (frF_fn ro') hxo hE.mixed hrun hr ha (Q:=Q) hQ
    |false=>
     refine wpIn_region ?_
     refine xOps_ok (inR:=ro.isSome) (fun hs=> ?_) (frF_fn ro') hxo _ hrun hr ha hQ
     cases ro with
     |none=>
      cases ro' with
      |none=>rfl
      |some _=>exact hro.elim
     |some _=>cases hs
   ·cases h
  |rangeFunc g ps assign body=>exact xRange_ok hE ih1 h hr ha hro n hQ
  |_=>cases h
theorem run_ok {N:Nat} {f:FuncId} {args:List Value} {s s':AS} {v:Value} (h:xCall E (xCode E N) f args s=some (v,s')) {ι:Emb} {w:World} {args':List Value} (hr:Rep E.P E.C.G ι s.mem w) (ha:VRl ι args args'):
  Calls E.P f args'.toArray w fun e w'=> ∃ι' v',e= .returned v'∧Tr E.P E.C.G ι s.mem w ι' s'.mem w'∧VR ι' v v':=(xCall_ok hE (xCode_ok hE N) h).2 hr ha
end
#print axioms run_ok
end
end Go.Proofs.YtdcioacjhpnihaaGreatDoor
