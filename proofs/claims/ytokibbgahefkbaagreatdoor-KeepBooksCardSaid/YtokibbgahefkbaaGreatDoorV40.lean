/- The map of functions in memory, out of what the row says of it: its entries, in whatever order. -/
import Derived.Test.YtokibbgahefkbaaGreatDoorV22
import Derived.LaidHandle
import Derived.LaidSub
import Derived.ChangeAnyMap
import Derived.WideShapes
set_option linter.all false
namespace Go.Proofs.YtokibbgahefkbaaGreatDoor
open Go Go.RowKit
theorem mapM_each {α β:Type} {f:α→Option β}: ∀ {l:List α} {r:List β},l.mapM f=some r→l.length=r.length∧ ∀i (h:i<l.length) (h':i<r.length),f l[i] =some r[i]
 | [],r,h=>by simp at h;subst h;exact ⟨rfl,fun i h=>absurd h (Nat.not_lt_zero _)⟩
 |a::l,r,h=>by
  rw [List.mapM_cons] at h
  simp only [bind,Option.bind_eq_some_iff,pure,Option.some.injEq] at h
  obtain ⟨b,hb,r',hr,rfl⟩:=h
  obtain ⟨h1,h2⟩:=mapM_each hr
  refine ⟨by simp [h1],fun i h h'=> ?_⟩
  cases i with
  |zero=>exact hb
  |succ i=>exact h2 i (by simpa using h) (by simpa using h')
def entG (P:Program) (w:World) (fuel:Nat) (k e:TypeId) (x:MapEntry):Option ((Lit × DataW (List UInt8)) × List MemPlace):=
 (keyOf P k x.key).bind fun key=>if x.val.formed P e then (DataW.trod (funcToken P) P w 0 (fun _=>true) true fuel e x.val.cells.toList).map fun y=>((key,y.1),y.2) else none
theorem funcs_open {P:Program} {w:World} {t k e:TypeId} (ht:P.underlying t=some (.map k e)) {fuel:Nat} {cs:List Value} {D:List (Lit × DataW (List UInt8))} {p:List MemPlace}
  (h:DataW.trod (funcToken P) P w 0 (fun _=>true) true fuel t cs=some (.map D,p)): ∃fuel b es clock L,cs= [.map (some b)] ∧w.heap[b]? =some (.map es clock)∧es.toList.mapM (entG P w fuel k e)=some L∧D.Perm (L.map (·.1)):=by
 cases fuel with
 |zero=>simp [DataW.trod] at h
 |succ n=>
  have h0:=h
  rw [DataW.trod_step] at h
  unfold DataW.trodStep at h
  rw [ht] at h
  split at h<;>simp_all
  rename_i b _
  rw [DataW.trod_step] at h0
  unfold DataW.trodStep at h0
  cases hb:w.heap[b]? with
  |none=>simp [ht,hb] at h0
  |some o=>
   cases o
   case map es clock=>
    simp only [ht,hb] at h0
    split at h0
    ·rename_i hc
     simp only [Option.bind_eq_some_iff] at h0
     obtain ⟨entries,he,h3⟩:=h0
     split at h3
     ·simp only [Option.some.injEq,Prod.mk.injEq,DataW.map.injEq] at h3
      refine ⟨n,es,⟨clock,rfl⟩,entries,he,?_⟩
      rw [←h3.1]
      exact WideShapes.sorted_perm _
     ·cases h3
    ·cases h0
   all_goals (simp [ht,hb] at h0;done)
theorem trod_func {P:Program} {w:World} {fuel:Nat} {e:TypeId} {ps rs:Array TypeId} {va:Bool} (he:P.underlying e=some (.func ps rs va)) {cs:List Value} {y:DataW (List UInt8) × List MemPlace} {tk:List UInt8} (h:DataW.trod (funcToken P) P w 0 (fun _=>true) true fuel e cs=some y) (hq:y.1= .held tk):
  ∃fn fi ca,cs= [.func fn fi ca] ∧tk=funcToken P (e, .func fn fi ca):=by
 cases fuel with
 |zero=>simp [DataW.trod] at h
 |succ n=>
  rw [DataW.trod_step] at h
  unfold DataW.trodStep at h
  rw [he] at h
  split at h<;>simp_all
  ·subst h
   cases hq
  ·subst h
   cases hq
   exact ⟨_,_,_,⟨rfl,rfl,rfl⟩,rfl⟩
theorem entG_some {P:Program} {w:World} {fuel:Nat} {k e:TypeId} (hk:P.underlying k=some (.int .u8)) {ps rs:Array TypeId} {va:Bool} (he:P.underlying e=some (.func ps rs va)) {x:MapEntry} {q:Lit × DataW (List UInt8)} {pl:List MemPlace} {b:UInt8} {r:List UInt8} (h:entG P w fuel k e x=some (q,pl)) (hq:q.2= .held (b::r)):
  ∃ (n:Int) (f:FuncId) (fn:Func),q.1= .int .u8 n∧x.key= .int .u8 n∧x.val= .func (.func f) #[] #[] ∧P.funcNamed fn.name=some f∧fn.name.toUTF8.data.toList=b::r:=by
 unfold entG at h
 rw [Option.bind_eq_some_iff] at h
 obtain ⟨key,hkey,h⟩:=h
 split at h
 ·rename_i hf
  rw [Option.map_eq_some_iff] at h
  obtain ⟨y,hy,h⟩:=h
  cases h
  have hq:y.1= .held (b::r):=hq
  have h1: ∃n,x.key= .int .u8 n∧key= .int .u8 n:=by
   unfold keyOf at hkey
   rw [hk] at hkey
   unfold mapKey at hkey
   rw [hk] at hkey
   cases hx:x.key<;>rw [hx] at hkey<;>simp_all
  obtain ⟨n,h1,rfl⟩:=h1
  obtain ⟨f0,fi,ca,hcs,htk⟩:=trod_func he hy hq
  have h2:x.val= .func f0 fi ca:=by
   cases hv:x.val<;>rw [hv] at hf hcs<;>simp_all [Value.formed,Value.cells]
  obtain ⟨f,fn,h3,_,h4,h5⟩:=funcToken_tells htk.symm
  cases h3
  exact ⟨n,f,fn,rfl,h1,h2,h4,h5⟩
 ·cases h
theorem utf8_inj {a b:String} (h:a.toUTF8.data.toList=b.toUTF8.data.toList):a=b:=by
 have h1:a.toUTF8=b.toUTF8:=ByteArray.ext (Array.ext' h)
 exact String.toByteArray_inj.1 h1
def nm0:String:= "(armarium/rename.namer).move"
def nm1:String:= "(armarium/rename.namer).over"
def nm2:String:= "(armarium/rename.namer).link"
def nm3:String:= "(armarium/rename.namer).drop"
def byN (s:String):List UInt8:=s.toUTF8.data.toList
def dsD:List (Lit × DataW (List UInt8)):= [(.int .u8 0, .held (byN nm0)),(.int .u8 1, .held (byN nm1)),(.int .u8 2, .held (byN nm2)),(.int .u8 3, .held (byN nm3))]
theorem ent_of {W:World} {fuel:Nat} {x:MapEntry} {q:Lit × DataW (List UInt8)} {pl:List MemPlace} (h:entG Tryz.prog W fuel 5 277 x=some (q,pl)) (hq:q∈dsD):
  ∃i:Nat,i<4∧q.1= .int .u8 (.ofNat i)∧x=⟨.int .u8 (.ofNat i),fnV (fk i),x.born⟩:=by
 have key: ∀ (i:Nat) (s:String) (b:UInt8) (r:List UInt8),byN s=b::r→Tryz.prog.funcNamed s=some (fk i)→q=(.int .u8 (.ofNat i), .held (byN s))→q.1= .int .u8 (.ofNat i)∧x=⟨.int .u8 (.ofNat i),fnV (fk i),x.born⟩:=fun i s b r hb hs he=>by
  obtain ⟨n,f,fn,h1,h2,h3,h4,h5⟩:=entG_some Tryz.underlying5 Tryz.underlying277 h (b:=b) (r:=r) (by rw [he,hb])
  have hn:fn.name=s:=utf8_inj (h5.trans hb.symm)
  rw [hn,hs] at h4
  rw [he] at h1
  have h1:Lit.int .u8 (.ofNat i)= .int .u8 n:=h1
  obtain ⟨xk,xv,xb⟩:=x
  simp only at h2 h3
  cases h1
  cases h4
  refine ⟨by rw [he],?_⟩
  rw [h2,h3]
  rfl
 unfold dsD at hq
 simp only [List.mem_cons,List.not_mem_nil,or_false] at hq
 rcases hq with e |e |e |e
 ·exact ⟨0,by decide,key 0 nm0 40 ((byN nm0).tail) (by kernel_rfl) (by kernel_rfl) e⟩
 ·exact ⟨1,by decide,key 1 nm1 40 ((byN nm1).tail) (by kernel_rfl) (by kernel_rfl) e⟩
 ·exact ⟨2,by decide,key 2 nm2 40 ((byN nm2).tail) (by kernel_rfl) (by kernel_rfl) e⟩
 ·exact ⟨3,by decide,key 3 nm3 40 ((byN nm3).tail) (by kernel_rfl) (by kernel_rfl) e⟩
theorem qs_fin: ((List.range 4).all fun a=>(List.range 4).all fun b=>(List.range 4).all fun c=>(List.range 4).all fun d=>a==b ||a==c ||a==d ||b==c ||b==d ||c==d ||qs.contains (a,b,c,d))=true:=by decide+kernel
theorem qs_all (a:Nat) (ha:a<4) (b:Nat) (hb:b<4) (c:Nat) (hc:c<4) (d:Nat) (hd:d<4) (h1:a≠b) (h2:a≠c) (h3:a≠d) (h4:b≠c) (h5:b≠d) (h6:c≠d): (a,b,c,d)∈qs:=by
 have h:=List.all_eq_true.1 (List.all_eq_true.1 (List.all_eq_true.1 (List.all_eq_true.1 qs_fin a (List.mem_range.2 ha)) b (List.mem_range.2 hb)) c (List.mem_range.2 hc)) d (List.mem_range.2 hd)
 simp only [Bool.or_eq_true,beq_iff_eq,h1,h2,h3,h4,h5,h6,false_or] at h
 exact List.contains_iff_mem.1 h
def litN:Lit→Int
 | .int _ n=>n
 |_=>99
theorem four {α:Type} {l:List α} (h:l.length=4): ∃a b c d,l= [a,b,c,d] :=by
 match l,h with
 | [a,b,c,d],_=>exact ⟨a,b,c,d,rfl⟩
theorem map_of {W:World} {fuel r:Nat} {es:Array MapEntry} {clock:Nat} {L:List ((Lit × DataW (List UInt8)) × List MemPlace)} (h:es.toList.mapM (entG Tryz.prog W fuel 5 277)=some L) (hp:dsD.Perm (L.map (·.1))) (hr:W.heap[r]? =some (.map es clock)):
  ∃q b c,q∈qs∧W.heap[r]? =some (dsM q b c):=by
 obtain ⟨h1,h2⟩:=mapM_each h
 have hl:L.length=4:=by have:=hp.length_eq;rw [List.length_map] at this;exact this.symm
 obtain ⟨l0,l1,l2,l3,rfl⟩:=four hl
 obtain ⟨x0,x1,x2,x3,hes⟩:=four (h1.trans hl)
 have hea:es=⟨[x0,x1,x2,x3]⟩:=Array.ext' hes
 clear h h1 hl hes
 subst hea
 ··have g0:=h2 0 (by simp) (by simp)
   have g1:=h2 1 (by simp) (by simp)
   have g2:=h2 2 (by simp) (by simp)
   have g3:=h2 3 (by simp) (by simp)
   obtain ⟨i0,d0,k0,e0⟩:=ent_of g0 (hp.mem_iff.2 (by simp))
   obtain ⟨i1,d1,k1,e1⟩:=ent_of g1 (hp.mem_iff.2 (by simp))
   obtain ⟨i2,d2,k2,e2⟩:=ent_of g2 (hp.mem_iff.2 (by simp))
   obtain ⟨i3,d3,k3,e3⟩:=ent_of g3 (hp.mem_iff.2 (by simp))
   have hnd: (([l0,l1,l2,l3] :List ((Lit × DataW (List UInt8)) × List MemPlace)).map (fun y=>litN y.1.1)).Nodup:=by
    have h3: (dsD.map (fun y=>litN y.1)).Perm (([l0,l1,l2,l3] :List ((Lit × DataW (List UInt8)) × List MemPlace)).map (fun y=>litN y.1.1)):=by
     have:=hp.map (fun y=>litN y.1)
     rwa [List.map_map] at this
    exact h3.nodup_iff.1 (show ([0,1,2,3] :List Int).Nodup by decide)
   simp only [List.map_cons,List.map_nil] at hnd
   have k0:l0.1.1= .int .u8 (.ofNat i0):=k0
   have k1:l1.1.1= .int .u8 (.ofNat i1):=k1
   have k2:l2.1.1= .int .u8 (.ofNat i2):=k2
   have k3:l3.1.1= .int .u8 (.ofNat i3):=k3
   rw [k0,k1,k2,k3] at hnd
   have n01:i0≠i1:=fun e=>by subst e;simp at hnd
   have n02:i0≠i2:=fun e=>by subst e;simp at hnd
   have n03:i0≠i3:=fun e=>by subst e;simp at hnd
   have n12:i1≠i2:=fun e=>by subst e;simp at hnd
   have n13:i1≠i3:=fun e=>by subst e;simp at hnd
   have n23:i2≠i3:=fun e=>by subst e;simp at hnd
   refine ⟨(i0,i1,i2,i3),fun k=>if k=i0 then x0.born else if k=i1 then x1.born else if k=i2 then x2.born else x3.born,clock,qs_all _ d0 _ d1 _ d2 _ d3 n01 n02 n03 n12 n13 n23,?_⟩
   rw [hr]
   have e0:x0=⟨.int .u8 (.ofNat i0),fnV (fk i0),x0.born⟩:=e0
   have e1:x1=⟨.int .u8 (.ofNat i1),fnV (fk i1),x1.born⟩:=e1
   have e2:x2=⟨.int .u8 (.ofNat i2),fnV (fk i2),x2.born⟩:=e2
   have e3:x3=⟨.int .u8 (.ofNat i3),fnV (fk i3),x3.born⟩:=e3
   unfold dsM dsE entD
   simp only [if_pos,if_neg n01.symm,if_neg n02.symm,if_neg n03.symm,if_neg n12.symm,if_neg n13.symm,if_neg n23.symm, ←e0, ←e1, ←e2, ←e3]
theorem does_of {W:World} (h:funcsAt Tryz.prog W "armarium/rename.does" (.map [(.int .u8 0, .iface "func" (.lit (.string (byN nm0)))),(.int .u8 1, .iface "func" (.lit (.string (byN nm1)))),(.int .u8 2, .iface "func" (.lit (.string (byN nm2)))),(.int .u8 3, .iface "func" (.lit (.string (byN nm3))))])) (hS:W.ShapedOpen Tryz.prog):
  ∃r q b c,q∈qs∧W.heap[0]? =some (dsG r)∧W.heap[r]? =some (dsM q b c):=by
 obtain ⟨g,t,cs,fuel,p,hg,ht,hv,h⟩:=h
 have hgn:Tryz.prog.globalNamed "armarium/rename.does" =some 0:=by kernel_rfl
 obtain rfl:0=g:=Option.some.inj (hgn.symm.trans hg)
 have htn: (Tryz.prog.globals[(0:Nat)]?).map (·.type)=some 279:=by kernel_rfl
 obtain rfl:279=t:=Option.some.inj (htn.symm.trans ht)
 obtain ⟨fuel,r,es,clock,L,hcs,hr,hL,hp⟩:=funcs_open Tryz.underlying279 (D:=dsD) h
 have hrow: (((begin Tryz.prog (fun _ _=>0) default).world.heap[(0:Nat)]?).bind Obj.row?).map (·.2)=some 279:=by kernel_rfl
 obtain ⟨q,b,c,hq,hm⟩:=map_of hL hp hr
 refine ⟨r,q,b,c,hq,?_,hm⟩
 cases hx: ((begin Tryz.prog (fun _ _=>0) default).world.heap[(0:Nat)]?).bind Obj.row? with
 |none=>rw [hx] at hrow;cases hrow
 |some zt=>
  obtain ⟨z,t'⟩:=zt
  rw [hx] at hrow
  cases hrow
  have hlt: (0:Nat) <Tryz.prog.globals.size:=by
   have:Tryz.prog.globals.size=8:=by kernel_rfl
   rw [this];decide
  obtain ⟨cs',h1,_⟩:=hS.1 0 z _ hlt hx
  unfold World.var? at hv
  rw [hgn] at hv
  simp only [Option.bind_some,h1,Option.some.injEq] at hv
  have hc:cs'=⟨[.map (some r)]⟩:=hv.trans (Array.ext' hcs)
  rw [h1,hc]
  rfl
end Go.Proofs.YtokibbgahefkbaaGreatDoor
