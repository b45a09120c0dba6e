/- Running a program on known data, whatever the tape says: an abstract memory whose blocks bear names of their own, and how it stands to a world. An abstract memory stands for a world; one turns into another, and nothing beside it is touched. Rows of cells: read, written, made. A block is written, a block is made, a block takes another name. Operations on abstract values: plain ones, loads, stores, new variables, addresses. Operations on abstract values: append, copy. append on abstract values is right. Operations on abstract values: copy, slices of slices, make, literals, strings and bytes, comparisons with nil. Operations on abstract values: make, literals, strings and bytes, comparisons with nil, parts of values. Operations on abstract values: strings and bytes, comparisons with nil, parts of values. All operations that are no calls, on abstract values. Maps on abstract values: a key is looked for. Maps on abstract values: the operations. Maps whose order nobody knows. Operations on abstract values: maps of both kinds, clear, what is unsafe. Operations on abstract values: unsafe pointers, strings out of rows. Which types are numbers or strings, which are rows of bytes (by the seat's numbers; printed by a program: it only sorts operations, nothing is believed of it). -/
import Derived.CallsIn
import Derived.RangeFuncIn
import Derived.OrdersIn
import Derived.Laws.CopyRow
import Derived.Laws.Cells
import Derived.ChangeKeysEq
import Derived.Deep.AppendSrc
import Derived.Laws.BytesString
import Derived.Lib.BytesEntry
import Derived.Lib.UnsafeStr
set_option linter.all false
namespace Go.Proofs.YtdcioacjhpnihaaGreatDoor
open Go
noncomputable section
inductive T (α:Type) where
 |leaf
 |node (l:T α) (v:Option α) (r:T α)
namespace T
variable {α:Type}
def get (t:T α):Nat→Option α:=
 T.rec (motive:=fun _=>Nat→Option α) (fun _=>none) (fun _ v _ il ir k=>Nat.rec (motive:=fun _=>Option α) v (fun n _=>Nat.rec (motive:=fun _=>Option α) (il (Nat.div n 2)) (fun _ _=>ir (Nat.div n 2)) (Nat.mod n 2)) k) t
def nodeW (l:T α) (v:Option α) (r:T α) (ih:T α→Nat→Option α→T α) (k:Nat) (x:Option α):T α:=
 Nat.rec (motive:=fun _=>T α) (.node l x r) (fun n _=>Nat.rec (motive:=fun _=>T α) (.node (ih l (Nat.div n 2) x) v r) (fun _ _=> .node l v (ih r (Nat.div n 2) x)) (Nat.mod n 2)) k
def put (n:Nat):T α→Nat→Option α→T α:=
 Nat.rec (motive:=fun _=>T α→Nat→Option α→T α) (fun t _ _=>t) (fun _ ih t k x=>T.rec (motive:=fun _=>T α) (nodeW .leaf none .leaf ih k x) (fun l v r _ _=>nodeW l v r ih k x) t) n
theorem get_leaf (k:Nat):get (leaf:T α) k=none:=rfl
theorem get_node0 (l:T α) (v:Option α) (r:T α):get (node l v r) 0=v:=rfl
theorem get_nodeS (l:T α) (v:Option α) (r:T α) (n:Nat):get (node l v r) (n+1)=if n%2=0 then get l (n/2) else get r (n/2):=by
 show Nat.rec (motive:=fun _=>Option α) (get l (Nat.div n 2)) (fun _ _=>get r (Nat.div n 2)) (Nat.mod n 2)=_
 have h:Nat.mod n 2=n%2:=rfl
 rcases Nat.mod_two_eq_zero_or_one n with e |e
 ·rw [h,e,if_pos rfl];rfl
 ·rw [h,e,if_neg (by decide)];rfl
theorem get_node (l:T α) (v:Option α) (r:T α) (k:Nat):get (node l v r) k=if k=0 then v else if k%2=1 then get l (k/2) else get r (k/2-1):=by
 cases k with
 |zero=>rfl
 |succ n=>
  rw [get_nodeS,if_neg (Nat.succ_ne_zero n)]
  by_cases h:n%2=0
  ·rw [if_pos h,if_pos (show (n+1)%2=1 by omega),show (n+1)/2=n/2 by omega]
  ·rw [if_neg h,if_neg (show ¬ (n+1)%2=1 by omega),show (n+1)/2-1=n/2 by omega]
theorem nodeW0 (l:T α) (v:Option α) (r:T α) (ih:T α→Nat→Option α→T α) (x:Option α):nodeW l v r ih 0 x= .node l x r:=rfl
theorem nodeWS (l:T α) (v:Option α) (r:T α) (ih:T α→Nat→Option α→T α) (n:Nat) (x:Option α):nodeW l v r ih (n+1) x=if n%2=0 then .node (ih l (n/2) x) v r else .node l v (ih r (n/2) x):=by
 show Nat.rec (motive:=fun _=>T α) (.node (ih l (Nat.div n 2) x) v r) (fun _ _=> .node l v (ih r (Nat.div n 2) x)) (Nat.mod n 2)=_
 have h:Nat.mod n 2=n%2:=rfl
 rcases Nat.mod_two_eq_zero_or_one n with e |e
 ·rw [h,e,if_pos rfl];rfl
 ·rw [h,e,if_neg (by decide)];rfl
theorem get_nodeW (l:T α) (v:Option α) (r:T α) (ih:T α→Nat→Option α→T α) (k:Nat) (x:Option α) (j:Nat)
  (hl: ∀j n,k=n+1→n%2=0→get (ih l (n/2) x) j=if j=n/2 then x else get l j) (hr: ∀j n,k=n+1→n%2≠0→get (ih r (n/2) x) j=if j=n/2 then x else get r j):
  get (nodeW l v r ih k x) j=if j=k then x else get (node l v r) j:=by
 cases k with
 |zero=>
  rw [nodeW0]
  cases j with
  |zero=>rfl
  |succ m=>rw [get_nodeS,get_nodeS,if_neg (Nat.succ_ne_zero m)]
 |succ n=>
  rw [nodeWS]
  by_cases h:n%2=0
  ·rw [if_pos h]
   cases j with
   |zero=>rw [get_node0,get_node0,if_neg (show ¬0=n+1 by omega)]
   |succ m=>
    rw [get_nodeS,get_nodeS,hl _ n rfl h]
    by_cases hm:m%2=0
    ·rw [if_pos hm,if_pos hm]
     by_cases e:m/2=n/2
     ·rw [if_pos e,if_pos (show m+1=n+1 by omega)]
     ·rw [if_neg e,if_neg (show ¬m+1=n+1 by omega)]
    ·rw [if_neg hm,if_neg hm,if_neg (show ¬m+1=n+1 by omega)]
  ·rw [if_neg h]
   cases j with
   |zero=>rw [get_node0,get_node0,if_neg (show ¬0=n+1 by omega)]
   |succ m=>
    rw [get_nodeS,get_nodeS,hr _ n rfl h]
    by_cases hm:m%2=0
    ·rw [if_pos hm,if_pos hm,if_neg (show ¬m+1=n+1 by omega)]
    ·rw [if_neg hm,if_neg hm]
     by_cases e:m/2=n/2
     ·rw [if_pos e,if_pos (show m+1=n+1 by omega)]
     ·rw [if_neg e,if_neg (show ¬m+1=n+1 by omega)]
theorem get_put: ∀ (n:Nat) (t:T α) (k:Nat) (x:Option α) (j:Nat),k<n→get (put n t k x) j=if j=k then x else get t j
 |0,_,_,_,_,h=>absurd h (Nat.not_lt_zero _)
 |n+1,leaf,k,x,j,h=>by
  have:=get_nodeW (leaf:T α) none leaf (put n) k x j (fun j m e _=>get_put n _ _ _ _ (by omega)) (fun j m e _=>get_put n _ _ _ _ (by omega))
  refine this.trans ?_
  rw [get_node]
  simp only [get_leaf]
  split
  ·rfl
  ·split
   ·rfl
   ·split<;>rfl
 |n+1,node l v r,k,x,j,h=>get_nodeW l v r (put n) k x j (fun j m e _=>get_put n _ _ _ _ (by omega)) (fun j m e _=>get_put n _ _ _ _ (by omega))
end T
structure Emb where
 b:Nat→Option Nat
 x:Nat→Nat
def Emb.le (ι ι':Emb):Prop:= ∀k c,ι.b k=some c→ι'.b k=some c∧ι'.x k=ι.x k
theorem Emb.le_refl (ι:Emb):ι.le ι:=fun _ _ h=>⟨h,rfl⟩
theorem Emb.le.trans {a b c:Emb} (h:a.le b) (k:b.le c):a.le c:=fun i d hi=>⟨(k i d (h i d hi).1).1,((k i d (h i d hi).1).2).trans (h i d hi).2⟩
def flM:Nat:=1099511627776
def fo (x:Nat):Nat:=x%flM
def fc (x:Nat):Nat:=x/flM
theorem fo_mk {o:Nat} (h:o<flM) (c:Nat):fo (o+c*flM)=o:=by
 unfold fo
 rw [Nat.add_mul_mod_self_right]
 exact Nat.mod_eq_of_lt h
theorem fc_mk {o:Nat} (h:o<flM) (c:Nat):fc (o+c*flM)=c:=by
 unfold fc
 rw [Nat.add_mul_div_right _ _ (by decide),Nat.div_eq_of_lt h,Nat.zero_add]
def symL (ι:Emb) (c:Nat):List UInt8:=(List.range 17).map fun i=>UInt8.ofNat (ι.x (c%1000+i))
def symLen (ι:Emb) (c:Nat):Nat:=ι.x (c%1000+16)
def symN (ι:Emb) (c:Nat):List UInt8:=(symL ι c).take (symLen ι c)
def bsB (l:List UInt8):ByteArray:=⟨⟨l⟩⟩
def goodB (n:Nat):Bool:=Nat.ble 33 n&&Nat.ble n 126&& !(Nat.beq n 47)
def nameL (l:List UInt8):Bool:=Nat.ble 1 l.length&&Nat.ble l.length 16&&l.all fun b=>goodB b.toNat
def ordN (r n:Nat):Option Bool:=if r<4 then (if n=97 then some (r%2==0) else if n=98 then some (r/2%2==0) else none) else none
structure Fact (ι:Emb) (c:Nat):Prop where
 small:c<1000000
 known: ∀i,i<17→ ∃b,ι.b (c%1000+i)=some b
 byte: ∀i,i<17→ι.x (c%1000+i) <256
 len:1≤symLen ι c∧symLen ι c≤16
 good: ∀i,i<symLen ι c→goodB (ι.x (c%1000+i))=true
 zero: ∀i,symLen ι c≤i→i<16→ι.x (c%1000+i)=0
 ne: ∀n:Nat,n=97∨n=98→symN ι c≠ [UInt8.ofNat n]
 lt: ∀n b,ordN (c/1000%8) n=some b→Op.bytesLess (symN ι c) [UInt8.ofNat n] =b
 sz:c/8000≠0→symLen ι c=c/8000
theorem Fact.mono {ι ι':Emb} (hl:ι.le ι') {c:Nat} (h:Fact ι c):Fact ι' c∧symN ι' c=symN ι c∧ ∀i,i<17→ι'.x (c%1000+i)=ι.x (c%1000+i):=by
 have e: ∀i,i<17→ι'.x (c%1000+i)=ι.x (c%1000+i):=fun i hi=>by
  obtain ⟨b,hb⟩:=h.known i hi
  exact (hl _ _ hb).2
 have e1:symL ι' c=symL ι c:=List.map_congr_left fun i hi=>by rw [e i (List.mem_range.1 hi)]
 have e2:symLen ι' c=symLen ι c:=e 16 (by decide)
 have e3:symN ι' c=symN ι c:=by unfold symN;rw [e1,e2]
 refine ⟨⟨h.small,fun i hi=> ?_,fun i hi=>by rw [e i hi];exact h.byte i hi,by rw [e2];exact h.len,fun i hi=> ?_,fun i h1 h2=> ?_,fun n hn=>by rw [e3];exact h.ne n hn,fun n b hn=>by rw [e3];exact h.lt n b hn,fun hn=>by rw [e2];exact h.sz hn⟩,e3,e⟩
 ·obtain ⟨b,hb⟩:=h.known i hi
  exact ⟨b,(hl _ _ hb).1⟩
 ·rw [e2] at hi
  have:=h.len
  rw [e i (by omega)]
  exact h.good i hi
 ·rw [e2] at h1
  rw [e i (by omega)]
  exact h.zero i h1 h2
def anyS:Nat→ByteArray→Prop
 |0,s=>100<s.size
 |1,s=>s.size≤100
 |2,s=>s.size≤100∧nameL s.data.toList=false
 |3,s=>nameL s.data.toList=true
 |_,_=>False
def unkK:Nat→IntKind
 |0=> .u8
 |1=> .u32
 |2=> .u64
 |_=> .i64
def unkOk:Nat→Int→Prop
 |0,n=>0≤n∧n<256
 |1,n=>0≤n∧n<4294967296
 |2,n=>0≤n∧n<4294967296
 |3,n=>0≤n∧n≤100
 |4,n=>100<n
 |_,_=>False
inductive VR (ι:Emb):Value→Value→Prop where
 |bool (b:Bool):VR ι (.bool b) (.bool b)
 |int (k:IntKind) (n:Int):VR ι (.int k n) (.int k n)
 |sym {c:Nat}:Fact ι c→VR ι (.float .f64 c) (.string (bsB (symN ι c)))
 |any (k:Nat) (s:ByteArray):anyS k s→VR ι (.float .f64 (1000000+k)) (.string s)
 |cb {c i:Nat}:Fact ι c→i<17→VR ι (.float .f32 (c*32+i)) (.int .u8 (ι.x (c%1000+i)))
 |unk (k:Nat) (n:Int):unkOk k n→VR ι (.chan (some k)) (.int (unkK k) n)
 |mix {cs:Array Value} {l:List UInt8}:cs.size=l.length→(∀i (h:i<cs.size) (h':i<l.length),VR ι cs[i] (.int .u8 (l[i].toNat:Int)))→VR ι (.func (.method "") cs #[]) (.string (bsB l))
 |string (s:ByteArray):VR ι (.string s) (.string s)
 |nilFunc:VR ι .nilFunc .nilFunc
 |nilIface:VR ι .nilIface .nilIface
 |nilPtr:VR ι (.pointer none) (.pointer none)
 |nilSlice:VR ι (.slice none 0 0) (.slice none 0 0)
 |nilMap:VR ι (.map none) (.map none)
 |ptr {k b o:Nat}:ι.b k=some b→VR ι (.pointer (some ⟨k,o,none⟩)) (.pointer (some ⟨b,o,none⟩))
 |slX {k b o:Nat} (n c:Nat):ι.b k=some b→VR ι (.slice (some ⟨k,o,none⟩) n c) (.slice (some ⟨b,o,none⟩) n c)
 |slG {k b o:Nat} (n c:Nat):ι.b k=some b→c+ι.x k≤maxLen→VR ι (.slice (some ⟨k,o,some 0⟩) n c) (.slice (some ⟨b,o,none⟩) n (c+ι.x k))
 |slE (a:Addr) (c:Nat):VR ι (.slice (some ⟨0,0,some 1⟩) 0 0) (.slice (some a) 0 c)
 |slT {k b:Nat} (o:Nat) (a:Addr):ι.b k=some b→(0<ι.x k→a=⟨b,o,none⟩)→VR ι (.slice (some ⟨k,o,some 3⟩) 0 0) (.slice (some a) 0 (ι.x k))
 |flS {q b:Nat} (n:Nat):ι.b q=some b→n≤fc (ι.x q)→VR ι (.complex .f64 q n) (.slice (some ⟨b,fo (ι.x q),none⟩) n (fc (ι.x q)))
 |flP {q b:Nat} (i:Nat):ι.b q=some b→VR ι (.complex .f32 q i) (.pointer (some ⟨b,fo (ι.x q)+i,none⟩))
 |map {k b:Nat}:ι.b k=some b→VR ι (.map (some k)) (.map (some b))
 |func (f:FuncId) {b b' c c':Array Value}:b.size=b'.size→(∀i (h:i<b.size) (h':i<b'.size),VR ι b[i] b'[i])→c.size=c'.size→(∀i (h:i<c.size) (h':i<c'.size),VR ι c[i] c'[i])→VR ι (.func (.func f) b c) (.func (.func f) b' c')
 |yield {l m:Nat}:ι.b l=some m→VR ι (.func (.yield l) #[] #[]) (.func (.yield m) #[] #[])
 |iface (t:TypeId) {v v':Value}:VR ι v v'→VR ι (.iface t v) (.iface t v')
 |agg {c c':Array Value}:c.size=c'.size→(∀i (h:i<c.size) (h':i<c'.size),VR ι c[i] c'[i])→VR ι (.agg c) (.agg c')
 |tuple {c c':Array Value}:c.size=c'.size→(∀i (h:i<c.size) (h':i<c'.size),VR ι c[i] c'[i])→VR ι (.tuple c) (.tuple c')
theorem VR.mono {ι ι':Emb} (hl:ι.le ι'): ∀ {v v':Value},VR ι v v'→VR ι' v v':=by
 intro v v' h
 induction h with
 |bool b=>exact .bool b
 |int k n=>exact .int k n
 |sym h=>have q:=h.mono hl;rw [←q.2.1];exact .sym q.1
 |any k s h=>exact .any k s h
 |cb h hi=>have q:=h.mono hl;rw [←q.2.2 _ hi];exact .cb q.1 hi
 |unk k n h=>exact .unk k n h
 |mix hs _ ih=>exact .mix hs ih
 |string s=>exact .string s
 |nilFunc=>exact .nilFunc
 |nilIface=>exact .nilIface
 |nilPtr=>exact .nilPtr
 |nilSlice=>exact .nilSlice
 |nilMap=>exact .nilMap
 |ptr h=>exact .ptr (hl _ _ h).1
 |slX n c h=>exact .slX n c (hl _ _ h).1
 |slG n c h hm=>rw [← (hl _ _ h).2] at hm ⊢;exact .slG n c (hl _ _ h).1 hm
 |slE a c=>exact .slE a c
 |slT o a h ha=>rw [← (hl _ _ h).2] at ha ⊢;exact .slT o a (hl _ _ h).1 ha
 |flS n h hn=>rw [← (hl _ _ h).2] at hn ⊢;exact .flS n (hl _ _ h).1 hn
 |flP i h=>rw [← (hl _ _ h).2];exact .flP i (hl _ _ h).1
 |map h=>exact .map (hl _ _ h).1
 |func f hb _ hs _ ihb ih=>exact .func f hb ihb hs ih
 |yield h=>exact .yield (hl _ _ h).1
 |iface t _ ih=>exact .iface t ih
 |agg hs _ ih=>exact .agg hs ih
 |tuple hs _ ih=>exact .tuple hs ih
def VRs (ι:Emb) (c c':Array Value):Prop:=c.size=c'.size∧ ∀i (h:i<c.size) (h':i<c'.size),VR ι c[i] c'[i]
theorem VRs.mono {ι ι':Emb} (hl:ι.le ι') {c c':Array Value} (h:VRs ι c c'):VRs ι' c c':=⟨h.1,fun i a b=>(h.2 i a b).mono hl⟩
def flat1:Value→Bool
 | .bool _ | .int .. | .string _ | .nilFunc | .nilIface | .pointer none | .slice none 0 0 | .map none=>true
 |_=>false
def flat:Value→Bool
 | .agg c=>c.all flat1
 | .tuple c=>c.all flat1
 | .func (.func _) f c=>f.isEmpty&&c.isEmpty
 |v=>flat1 v
theorem VR.flat1 (ι:Emb) {v:Value} (h:flat1 v=true):VR ι v v:=by
 unfold Proofs.YtdcioacjhpnihaaGreatDoor.flat1 at h
 split at h<;>first |constructor |cases h
theorem VR.flat (ι:Emb) {v:Value} (h:flat v=true):VR ι v v:=by
 unfold Proofs.YtdcioacjhpnihaaGreatDoor.flat at h
 split at h
 ·exact .agg rfl fun i hi _=>VR.flat1 ι (Array.all_eq_true'.1 h _ (Array.getElem_mem hi))
 ·exact .tuple rfl fun i hi _=>VR.flat1 ι (Array.all_eq_true'.1 h _ (Array.getElem_mem hi))
 ·rename_i f c
  rw [Bool.and_eq_true,Array.isEmpty_iff,Array.isEmpty_iff] at h
  rw [h.1,h.2]
  exact .func _ rfl (fun i h=>absurd h (Nat.not_lt_zero _)) rfl (fun i h=>absurd h (Nat.not_lt_zero _))
 ·exact VR.flat1 ι h
theorem VR.flat_eq {ι:Emb} {v v':Value} (hf:Proofs.YtdcioacjhpnihaaGreatDoor.flat1 v=true) (h:VR ι v v'):v'=v:=by
 cases h<;>first |rfl | (exact absurd hf (by simp [Proofs.YtdcioacjhpnihaaGreatDoor.flat1]))
theorem VR.flatE {ι:Emb} {v v':Value} (hf:Proofs.YtdcioacjhpnihaaGreatDoor.flat v=true) (h:VR ι v v'):v'=v:=by
 cases h with
 |agg hs hc=>
  simp only [Proofs.YtdcioacjhpnihaaGreatDoor.flat] at hf
  congr 1
  refine Array.ext hs.symm fun i h1 h2=> ?_
  exact (hc i h2 h1).flat_eq (Array.all_eq_true'.1 hf _ (Array.getElem_mem h2))
 |tuple hs hc=>
  simp only [Proofs.YtdcioacjhpnihaaGreatDoor.flat] at hf
  congr 1
  refine Array.ext hs.symm fun i h1 h2=> ?_
  exact (hc i h2 h1).flat_eq (Array.all_eq_true'.1 hf _ (Array.getElem_mem h2))
 |func f hb hbc hs hc=>
  rename_i b b' c c'
  have:b= #[] ∧c= #[] :=by simpa [Proofs.YtdcioacjhpnihaaGreatDoor.flat] using hf
  obtain ⟨rfl,rfl⟩:=this
  have:c'= #[] :=Array.eq_empty_of_size_eq_zero hs.symm
  rw [this]
  have:b'= #[] :=Array.eq_empty_of_size_eq_zero hb.symm
  rw [this]
 |_=>first |rfl | (exact absurd hf (by simp [Proofs.YtdcioacjhpnihaaGreatDoor.flat,Proofs.YtdcioacjhpnihaaGreatDoor.flat1]))
end
end Go.Proofs.YtdcioacjhpnihaaGreatDoor
namespace Go.Proofs.YtdcioacjhpnihaaGreatDoor
open Go
noncomputable section
structure Mem where
 get:Nat→Option Obj
 n:Nat
def entR (ι:Emb) (e e':MapEntry):Prop:=VR ι e.key e'.key∧VR ι e.val e'.val∧e'.born=e.born
def frOk (P:Program) (e:TypeId) (f:Nat × Nat) (n:Nat) (fr:Nat × Nat):Prop:=(∀i,i<n→ ¬ (fr.1≤i∧i<fr.2))∧(fr=(0,0)∨(f=(0,0)∧P.underlying e=some (.int .u8)))
def objR0 (P:Program) (ι:Emb) (x:Nat):Obj→Obj→Prop
 | .cells c e f, .cells c' e' fr'=>e'=e∧frOk P e f c'.size fr'∧c'.size=c.size+x*P.cellsOf e∧ ∀i (h:i<c.size) (h':i<c'.size),VR ι c[i] c'[i]
 | .loop r, .loop r'=>r'.state=r.state∧r'.pending=r.pending∧VRs ι r.tmps r'.tmps∧r'.params=r.params∧r'.assign=r.assign∧r'.body=r.body∧ι.b r.defers=some r'.defers
 | .deferred (some []), .deferred (some [])=>True
 | .deferred none, .deferred none=>True
 | .map es c, .map es' c'=>c'=c∧es.size=es'.size∧ ∀i (h:i<es.size) (h':i<es'.size),entR ι es[i] es'[i]
 | .mapIter (some m) a b c, .mapIter (some m') a' b' c'=>ι.b m=some m'∧a'=a∧b'=b∧c'=c
 |_,_=>False
def chOk (z:Nat) (v:Value):Prop:=v.cells.size=z∧v.cells.toList.all (·.oneCell')=true
def flatC (l:List Value):List Value:=l.flatMap fun v=>v.cells.toList
def prR (ι:Emb):List Value→List MapEntry→Prop
 | [], [] =>True
 | .tuple q::l,e::m=>(∃n v,q= #[.int .i64 n,v] ∧e.key= .int .i64 n∧VR ι v e.val)∧prR ι l m
 |_,_=>False
def umapR (ι:Emb) (l:List Value) (o':Obj):Prop:= ∃es' c',o'= .map es' c'∧(∃m:List MapEntry,m.Perm es'.toList∧prR ι l m)∧(es'.toList.map (·.key)).Nodup∧(∀e∈es'.toList,e.born<c')∧(es'.toList.map (·.born)).Nodup
def flR (P:Program) (ι:Emb) (x:Nat) (c:Array Value) (e:TypeId) (o':Obj):Prop:= ∃c' fr',o'= .cells c' e fr'∧frOk P e (0,0) c'.size fr'∧fo x+c.size≤c'.size∧ ∀i (h:i<c.size) (h':fo x+i<c'.size),VR ι c[i] c'[fo x+i]
def objR (P:Program) (ι:Emb) (x:Nat) (o o':Obj):Prop:=match o with
 | .pending c e=>flR P ι x c e o'
 | .chan e buf false z _ _=>0<z∧(∀v∈buf.toList,chOk z v)∧objR0 P ι x (.cells (flatC buf.toList).toArray e (0,0)) o'
 | .chan _ buf true _ _ _=>umapR ι buf.toList o'
 | .cells c e f=>objR0 P ι x (.cells c e f) o'
 | .loop r=>objR0 P ι x (.loop r) o'
 | .deferred d=>objR0 P ι x (.deferred d) o'
 | .map es c=>objR0 P ι x (.map es c) o'
 | .mapIter m a b c=>objR0 P ι x (.mapIter m a b c) o'
 |_=>False
theorem objR0.mono {P:Program} {ι ι':Emb} (hl:ι.le ι') {x:Nat} {o o':Obj} (h:objR0 P ι x o o'):objR0 P ι' x o o':=by
 unfold objR0 at*
 split at h
 ·exact ⟨h.1,h.2.1,h.2.2.1,fun i a b=>(h.2.2.2 i a b).mono hl⟩
 ·obtain ⟨a,b,d,e,f,g,i⟩:=h
  exact ⟨a,b,d.mono hl,e,f,g,(hl _ _ i).1⟩
 ·trivial
 ·trivial
 ·exact ⟨h.1,h.2.1,fun i a b=>⟨(h.2.2 i a b).1.mono hl,(h.2.2 i a b).2.1.mono hl,(h.2.2 i a b).2.2⟩⟩
 ·exact ⟨(hl _ _ h.1).1,h.2⟩
 ·exact h.elim
theorem prR.mono {ι ι':Emb} (hl:ι.le ι'): ∀ {l:List Value} {m:List MapEntry},prR ι l m→prR ι' l m
 | [], [],_=>trivial
 | .tuple q::l,e::m,h=>by
  obtain ⟨⟨n,v,h1,h2,h3⟩,h4⟩:=h
  exact ⟨⟨n,v,h1,h2,h3.mono hl⟩,prR.mono hl h4⟩
theorem umapR.mono {ι ι':Emb} (hl:ι.le ι') {l:List Value} {o':Obj} (h:umapR ι l o'):umapR ι' l o':=by
 obtain ⟨es',c',h1,⟨m,h2,h3⟩,h4⟩:=h
 exact ⟨es',c',h1,⟨m,h2,h3.mono hl⟩,h4⟩
theorem flR.mono {P:Program} {ι ι':Emb} (hl:ι.le ι') {x:Nat} {c:Array Value} {e:TypeId} {o':Obj} (h:flR P ι x c e o'):flR P ι' x c e o':=by
 obtain ⟨c',fr',h1,h2,h3,h4⟩:=h
 exact ⟨c',fr',h1,h2,h3,fun i a b=>(h4 i a b).mono hl⟩
theorem objR.mono {P:Program} {ι ι':Emb} (hl:ι.le ι') {x:Nat} {o o':Obj} (h:objR P ι x o o'):objR P ι' x o o':=by
 unfold objR at*
 split at h
 ·exact flR.mono hl h
 ·exact ⟨h.1,h.2.1,h.2.2.mono hl⟩
 ·exact h.mono hl
 ·exact h.mono hl
 ·exact h.mono hl
 ·exact h.mono hl
 ·exact h.mono hl
 ·exact h.mono hl
 ·exact h.elim
def doesN:Nat→String
 |0=> "(armarium/rename.namer).move"
 |1=> "(armarium/rename.namer).over"
 |2=> "(armarium/rename.namer).link"
 |_=> "(armarium/rename.namer).drop"
def doesOk (P:Program) (es:Array MapEntry):Prop:=(es.toList.map (·.key)).Nodup∧(∀e∈es.toList, ∃n,e.key= .int .u8 n)∧ ∀d f,d<4→P.funcNamed (doesN d)=some f→ ∃e∈es.toList,e.key= .int .u8 (d:Nat)∧e.val= .func (.func f) #[] #[]
structure Inv (P:Program) (ι:Emb) (m:Mem) (w:World):Prop where
 low:15<m.n
 pin: ∀b,ι.b 15=some b→(∀k,m.get k≠none→ι.b k≠some b)∧ ∃es c,w.heap[b]? =some (.map es c)∧doesOk P es
theorem Inv.step {P:Program} {ι ι':Emb} {m m':Mem} {w w':World} (h:Inv P ι m w) (le:ι.le ι') (keep: ∀j,j<w.heap.size→(∀k,m.get k≠none→ι.b k≠some j)→w'.heap[j]? =w.heap[j]?)
  (rng: ∀k b,m'.get k≠none→ι'.b k=some b→b<w.heap.size→ ∃j,m.get j≠none∧ι.b j=some b) (n:m.n≤m'.n) (res:15<m.n→ι.b 15=none→ι'.b 15=none):Inv P ι' m' w':=by
 refine ⟨Nat.lt_of_lt_of_le h.low n,fun b hb=> ?_⟩
 cases h0:ι.b 15 with
 |none=>rw [res h.low h0] at hb;cases hb
 |some b0=>
  have hl:=le 15 b0 h0
  rw [hl.1] at hb
  cases hb
  obtain ⟨h1,es,c,h2,h3⟩:=h.pin b h0
  have hlt:=(Array.getElem?_eq_some_iff.1 h2).1
  refine ⟨fun k hk hkb=> ?_,es,c,(keep b hlt h1).trans h2,h3⟩
  obtain ⟨j,hj,hjb⟩:=rng k b hk hkb hlt
  exact h1 j hj hjb
theorem Inv.same {P:Program} {ι:Emb} {m m':Mem} {w w':World} (h:Inv P ι m w) (hd: ∀k,m'.get k≠none→m.get k≠none) (n:m.n≤m'.n) (hw: ∀j,j<w.heap.size→(∀k,m.get k≠none→ι.b k≠some j)→w'.heap[j]? =w.heap[j]?):Inv P ι m' w':=
 h.step ι.le_refl hw (fun k _ hk hb _=>⟨k,hd k hk,hb⟩) n fun _ h=>h
structure Rep (P:Program) (G:Nat) (ι:Emb) (m:Mem) (w:World):Prop where
 obj: ∀k o,m.get k=some o→ ∃b o',ι.b k=some b∧w.heap[b]? =some o'∧objR P ι (ι.x k) o o'
 inj: ∀j k b,m.get j≠none→m.get k≠none→ι.b j=some b→ι.b k=some b→j=k
 new: ∀k,m.n≤k→ι.b k=none
 glob: ∀g,g<G→ι.b g=some g
 inv:Inv P ι m w
theorem Rep.lt {P:Program} {G:Nat} {ι:Emb} {m:Mem} {w:World} (h:Rep P G ι m w) {k b:Nat} (hk:m.get k≠none) (hb:ι.b k=some b):b<w.heap.size:=by
 obtain ⟨o,ho⟩:=Option.ne_none_iff_exists'.1 hk
 obtain ⟨b',o',e,hw,_⟩:=h.obj k o ho
 rw [hb] at e
 cases e
 exact (Array.getElem?_eq_some_iff.1 hw).1
structure Tr (P:Program) (G:Nat) (ι:Emb) (m:Mem) (w:World) (ι':Emb) (m':Mem) (w':World):Prop where
 le:ι.le ι'
 rep:Rep P G ι' m' w'
 os:w'.os=w.os
 tape:w'.tape=w.tape
 output:w'.output=w.output
 size:w.heap.size≤w'.heap.size
 keep: ∀j,j<w.heap.size→(∀k,m.get k≠none→ι.b k≠some j)→w'.heap[j]? =w.heap[j]?
 rng: ∀k b,m'.get k≠none→ι'.b k=some b→b<w.heap.size→ ∃j,m.get j≠none∧ι.b j=some b
 dom: ∀k,m'.get k≠none→m.get k≠none∨m.n≤k
 n:m.n≤m'.n
 res: ∀k,k<m.n→ι.b k=none→ι'.b k=none
section
variable {P:Program} {G:Nat}
theorem Tr.refl {ι:Emb} {m:Mem} {w:World} (h:Rep P G ι m w):Tr P G ι m w ι m w:=
 ⟨ι.le_refl,h,rfl,rfl,rfl,Nat.le_refl _,fun _ _ _=>rfl,fun k _ hk hb _=>⟨k,hk,hb⟩,fun _ h=> .inl h,Nat.le_refl _,fun _ _ h=>h⟩
theorem Tr.trans {ι₁ ι₂ ι₃:Emb} {m₁ m₂ m₃:Mem} {w₁ w₂ w₃:World} (h:Tr P G ι₁ m₁ w₁ ι₂ m₂ w₂) (k:Tr P G ι₂ m₂ w₂ ι₃ m₃ w₃):Tr P G ι₁ m₁ w₁ ι₃ m₃ w₃ where
 le:=h.le.trans k.le
 rep:=k.rep
 os:=k.os.trans h.os
 tape:=k.tape.trans h.tape
 output:=k.output.trans h.output
 size:=Nat.le_trans h.size k.size
 keep j hj hn:=by
  refine (k.keep j (Nat.lt_of_lt_of_le hj h.size) fun i hi hb=> ?_).trans (h.keep j hj hn)
  obtain ⟨i',hi',hb'⟩:=h.rng i j hi hb hj
  exact hn i' hi' hb'
 rng i b hi hb hlt:=by
  obtain ⟨i',hi',hb'⟩:=k.rng i b hi hb (Nat.lt_of_lt_of_le hlt h.size)
  exact h.rng i' b hi' hb' hlt
 dom i hi:=by
  rcases k.dom i hi with h1 |h1
  ·exact h.dom i h1
  ·exact .inr (Nat.le_trans h.n h1)
 n:=Nat.le_trans h.n k.n
 res i hi hb:=k.res i (Nat.lt_of_lt_of_le hi h.n) (h.res i hi hb)
theorem Rep.less {ι:Emb} {m m':Mem} {w:World} (h:Rep P G ι m w) (hs: ∀k o,m'.get k=some o→m.get k=some o) (hn:m.n≤m'.n):Rep P G ι m' w:=by
 have hd: ∀k,m'.get k≠none→m.get k≠none:=fun k hk=>by
  obtain ⟨o,ho⟩:=Option.ne_none_iff_exists'.1 hk
  rw [hs k o ho]
  exact fun e=>by cases e
 exact ⟨fun k o ho=>h.obj k o (hs k o ho),fun j k b hj hk=>h.inj j k b (hd j hj) (hd k hk),fun k hk=>h.new k (Nat.le_trans hn hk),h.glob,h.inv.same hd hn fun _ _ _=>rfl⟩
theorem Tr.frame {ι ι':Emb} {m m':Mem} {w w':World} (h:Tr P G ι m w ι' m' w') {H H':Mem} (hH:Rep P G ι H w) (hs: ∀k o,m.get k=some o→H.get k=some o) (hn:H.n=m.n)
  (hn':H'.n=m'.n) (hH': ∀k,H'.get k=if m'.get k≠none then m'.get k else if m.get k=none then H.get k else none) (hlt: ∀k,H.get k≠none→m.get k=none→k<m.n):Tr P G ι H w ι' H' w':=by
 have hd: ∀k,m.get k≠none→H.get k≠none:=fun k hk=>by
  obtain ⟨o,ho⟩:=Option.ne_none_iff_exists'.1 hk
  rw [hs k o ho]
  exact fun e=>by cases e
 have hcase: ∀k,H'.get k≠none→(m'.get k≠none∧H'.get k=m'.get k)∨(m'.get k=none∧m.get k=none∧H.get k≠none∧H'.get k=H.get k):=fun k hk=>by
  rw [hH'] at hk ⊢
  by_cases h1:m'.get k=none
  ·simp only [h1,ne_eq,not_true,if_false] at hk ⊢
   by_cases h2:m.get k=none
   ·simp only [h2,if_true] at hk ⊢
    exact .inr ⟨trivial,trivial,hk,trivial⟩
   ·simp only [h2,if_false] at hk
    exact absurd trivial hk
  ·simp only [ne_eq,h1,not_false_eq_true,if_true]
   exact .inl ⟨trivial,trivial⟩
 have hbes: ∀k,m.get k=none→H.get k≠none→ ∃b,ι.b k=some b∧ι'.b k=some b∧b<w.heap.size∧ ∀i,m.get i≠none→ι.b i≠some b:=fun k h1 h2=>by
  obtain ⟨o,ho⟩:=Option.ne_none_iff_exists'.1 h2
  obtain ⟨b,o',e,hw,_⟩:=hH.obj k o ho
  refine ⟨b,e,(h.le k b e).1,(Array.getElem?_eq_some_iff.1 hw).1,fun i hi hb=> ?_⟩
  have:=hH.inj i k b (hd i hi) h2 hb e
  subst this
  exact hi h1
 have hrng: ∀k b,H'.get k≠none→ι'.b k=some b→b<w.heap.size→ ∃j,H.get j≠none∧ι.b j=some b:=fun k b hk hb hlt'=>by
  rcases hcase k hk with ⟨h1,_⟩| ⟨h1,h2,h3,_⟩
  ·obtain ⟨j,hj,hjb⟩:=h.rng k b h1 hb hlt'
   exact ⟨j,hd j hj,hjb⟩
  ·obtain ⟨b',e,e',_,_⟩:=hbes k h2 h3
   rw [hb] at e'
   cases e'
   exact ⟨k,h3,e⟩
 refine ⟨h.le,⟨fun k o ho=> ?_,fun j k b hj hk ej ek=> ?_,fun k hk=>h.rep.new k (hn'▸hk),h.rep.glob,hH.inv.step h.le (fun j hj hq=>h.keep j hj fun k hk=>hq k (hd k hk)) (fun k b hk hb hlt'=>hrng k b hk hb hlt') (by rw [hn,hn'];exact h.n) fun hk=>h.res 15 (hn▸hk)⟩,h.os,h.tape,h.output,h.size,fun j hj hq=>h.keep j hj fun k hk=>hq k (hd k hk),hrng,fun k hk=> ?_,by rw [hn,hn'];exact h.n,fun k hk=>h.res k (hn▸hk)⟩
 ·rcases hcase k (by rw [ho];exact fun e=>by cases e) with ⟨h1,h2⟩| ⟨h1,h2,h3,h4⟩
  ·exact h.rep.obj k o (h2▸ho)
  ·obtain ⟨b,e,e',hb,hne⟩:=hbes k h2 h3
   obtain ⟨b',o',e2,hw,hr⟩:=hH.obj k o (h4▸ho)
   rw [e] at e2
   cases e2
   refine ⟨b,o',e',(h.keep b hb hne).trans hw,?_⟩
   rw [(h.le k b e).2]
   exact hr.mono h.le
 ·rcases hcase j hj with ⟨h1,_⟩| ⟨h1,h2,h3,_⟩ <;>rcases hcase k hk with ⟨g1,_⟩| ⟨g1,g2,g3,_⟩
  ·exact h.rep.inj j k b h1 g1 ej ek
  ·obtain ⟨b',e,e',hb,hne⟩:=hbes k g2 g3
   rw [ek] at e'
   cases e'
   obtain ⟨i,hi,hib⟩:=h.rng j b h1 ej hb
   exact absurd hib (hne i hi)
  ·obtain ⟨b',e,e',hb,hne⟩:=hbes j h2 h3
   rw [ej] at e'
   cases e'
   obtain ⟨i,hi,hib⟩:=h.rng k b g1 ek hb
   exact absurd hib (hne i hi)
  ·obtain ⟨b1,e1,e1',_,_⟩:=hbes j h2 h3
   obtain ⟨b2,e2,e2',_,_⟩:=hbes k g2 g3
   rw [ej] at e1'
   rw [ek] at e2'
   cases e1'
   cases e2'
   exact hH.inj j k b h3 g3 e1 e2
 ·rcases hcase k hk with ⟨h1,_⟩| ⟨h1,h2,h3,_⟩
  ·rcases h.dom k h1 with h4 |h4
   ·exact .inl (hd k h4)
   ·exact .inr (hn▸h4)
  ·exact .inl h3
end
def oEq (o p:Obj):Prop:= ∀P ι x o',objR P ι x o o'↔objR P ι x p o'
structure mEq (m m':Mem):Prop where
 n:m.n=m'.n
 none: ∀k,m.get k=none↔m'.get k=none
 some: ∀k o o',m.get k=some o→m'.get k=some o'→oEq o o'
theorem oEq.refl (o:Obj):oEq o o:=fun _ _ _ _=>Iff.rfl
theorem oEq.symm {o p:Obj} (h:oEq o p):oEq p o:=fun P ι x o'=>(h P ι x o').symm
theorem mEq.refl (m:Mem):mEq m m:=⟨rfl,fun _=>Iff.rfl,fun k o o' h h'=>by rw [h] at h';cases h';exact .refl o⟩
theorem mEq.symm {m m':Mem} (h:mEq m m'):mEq m' m:=⟨h.n.symm,fun k=>(h.none k).symm,fun k o o' a b=>(h.some k o' o b a).symm⟩
theorem mEq.rep {P:Program} {G:Nat} {ι:Emb} {m m':Mem} {w:World} (h:mEq m m') (hr:Rep P G ι m w):Rep P G ι m' w:=by
 refine ⟨fun k o ho=> ?_,fun j k b hj hk=>hr.inj j k b (fun e=>hj ((h.none j).1 e)) (fun e=>hk ((h.none k).1 e)),fun k hk=>hr.new k (h.n▸hk),hr.glob,hr.inv.same (fun k hk e=>hk ((h.none k).1 e)) (Nat.le_of_eq h.n) fun _ _ _=>rfl⟩
 cases hm:m.get k with
 |none=>rw [(h.none k).1 hm] at ho;cases ho
 |some o2=>
  obtain ⟨b,o',e,hw,hq⟩:=hr.obj k o2 hm
  exact ⟨b,o',e,hw,(h.some k o2 o hm ho P ι _ o').1 hq⟩
theorem mEq.tr {P:Program} {G:Nat} {ι ι':Emb} {m m' n n':Mem} {w w':World} (h:mEq m m') (k:mEq n n') (t:Tr P G ι m w ι' n w'):Tr P G ι m' w ι' n' w':=
 ⟨t.le,k.rep t.rep,t.os,t.tape,t.output,t.size,fun j hj hq=>t.keep j hj fun i hi=>hq i (fun e=>hi ((h.none i).2 e)),fun i b hi hb hlt=>by
   obtain ⟨j,hj,e⟩:=t.rng i b (fun e=>hi ((k.none i).1 e)) hb hlt
   exact ⟨j,fun e=>hj ((h.none j).2 e),e⟩,
  fun i hi=>by
   rcases t.dom i (fun e=>hi ((k.none i).1 e)) with h1 |h1
   ·exact .inl fun e=>h1 ((h.none i).2 e)
   ·exact .inr (h.n▸h1),by rw [←h.n, ←k.n];exact t.n,fun i hi hb=>t.res i (h.n▸hi) hb⟩
theorem oEq_chunks {e:TypeId} {buf:Array Value} {z a:Nat} {t:Bool} (hz:0<z) (h: ∀v∈buf.toList,chOk z v):oEq (.chan e buf false z a t) (.cells (flatC buf.toList).toArray e (0,0)):=fun P ι x o'=>by
 constructor
 ·intro hq
  exact hq.2.2
 ·intro hq
  exact ⟨hz,h,hq⟩
structure AS where
 h:T Obj
 n:Nat
def AS.mem (s:AS):Mem:=⟨s.h.get,s.n⟩
def AS.put (s:AS) (k:Nat) (o:Option Obj):AS:=⟨s.h.put 100000000 k o,s.n⟩
end
end Go.Proofs.YtdcioacjhpnihaaGreatDoor
namespace Go.Proofs.YtdcioacjhpnihaaGreatDoor
open Go
noncomputable section
def VRl (ι:Emb) (l l':List Value):Prop:=l.length=l'.length∧ ∀ (i:Nat) (v v':Value),l[i]? =some v→l'[i]? =some v'→VR ι v v'
section
variable {ι:Emb}
theorem VRl.nil:VRl ι [] [] :=⟨rfl,fun i v v' h=>by simp at h⟩
theorem VRl.mono {ι':Emb} (hl:ι.le ι') {l l':List Value} (h:VRl ι l l'):VRl ι' l l':=⟨h.1,fun i v v' a b=>(h.2 i v v' a b).mono hl⟩
theorem VRl.of_s {c c':Array Value} (h:VRs ι c c'):VRl ι c.toList c'.toList:=⟨by simpa using h.1,fun i v v' a b=>by
 rw [Array.getElem?_toList,Array.getElem?_eq_some_iff] at a b
 obtain ⟨h1,rfl⟩:=a
 obtain ⟨h2,rfl⟩:=b
 exact h.2 i h1 h2⟩
theorem VRl.s {l l':List Value} (h:VRl ι l l'):VRs ι l.toArray l'.toArray:=⟨by simpa using h.1,fun i a b=>by
 simp only [List.size_toArray] at a b
 simp only [List.getElem_toArray]
 exact h.2 i _ _ (List.getElem?_eq_getElem a) (List.getElem?_eq_getElem b)⟩
theorem VRl.cons {v v':Value} {l l':List Value} (h:VR ι v v') (hl:VRl ι l l'):VRl ι (v::l) (v'::l'):=⟨by simp [hl.1],fun i a b ha hb=>by
 cases i with
 |zero=>simp at ha hb;rw [←ha, ←hb];exact h
 |succ i=>simp at ha hb;exact hl.2 i a b ha hb⟩
theorem VRl.append {a a' b b':List Value} (h:VRl ι a a') (k:VRl ι b b'):VRl ι (a++b) (a'++b'):=⟨by simp [h.1,k.1],fun i v v' e e'=>by
 have hl:=h.1
 by_cases hi:i<a.length
 ·rw [List.getElem?_append_left hi] at e
  rw [List.getElem?_append_left (by omega)] at e'
  exact h.2 i v v' e e'
 ·rw [List.getElem?_append_right (by omega)] at e
  rw [List.getElem?_append_right (by omega)] at e'
  rw [←h.1] at e'
  exact k.2 _ v v' e e'⟩
theorem VRl.take {l l':List Value} (h:VRl ι l l') (n:Nat):VRl ι (l.take n) (l'.take n):=⟨by simp [h.1],fun i v v' e e'=>by
 rw [List.getElem?_take] at e e'
 split at e
 ·simp_all only [if_true];exact h.2 i v v' e e'
 ·cases e⟩
theorem VRl.drop {l l':List Value} (h:VRl ι l l') (n:Nat):VRl ι (l.drop n) (l'.drop n):=⟨by simp [h.1],fun i v v' e e'=>by
 rw [List.getElem?_drop] at e e'
 exact h.2 _ v v' e e'⟩
theorem VR.one {v v':Value} (h:VR ι v v'):v'.oneCell'=v.oneCell':=by cases h<;>rfl
theorem VR.cells {v v':Value} (h:VR ι v v'):VRl ι v.cells.toList v'.cells.toList:=by
 have h0:=h
 cases h with
 |agg hs hc=>exact VRl.of_s ⟨hs,hc⟩
 |_=>exact VRl.cons h0 VRl.nil
theorem VRl.one {l l':List Value} (h:VRl ι l l') (h1:l.all (·.oneCell')=true): ∀v∈l',v.oneCell'=true:=fun v hv=>by
 obtain ⟨i,hi,rfl⟩:=List.mem_iff_getElem.1 hv
 have hi':i<l.length:=by rw [h.1];exact hi
 have:=(h.2 i _ _ (List.getElem?_eq_getElem hi') (List.getElem?_eq_getElem hi)).one
 rw [this]
 exact List.all_eq_true.1 h1 _ (List.getElem_mem hi')
end
section
variable {P:Program} {G:Nat} {ι:Emb} {m:Mem} {w:World}
theorem Rep.row (h:Rep P G ι m w) {k:Nat} {c:Array Value} {e:TypeId} {fr:Nat × Nat} (hk:m.get k=some (.cells c e fr)):
  ∃b c' fr',ι.b k=some b∧w.heap[b]? =some (.cells c' e fr')∧(∀i,i<c'.size→ ¬ (fr'.1≤i∧i<fr'.2))∧c'.size=c.size+ι.x k*P.cellsOf e∧VRl ι c.toList (c'.toList.take c.size):=by
 obtain ⟨b,o',hb,hw,hr⟩:=h.obj k _ hk
 cases o' with
 |cells c' e' fr'=>
  obtain ⟨rfl,hfr,hs,hv⟩:=hr
  refine ⟨b,c',fr',hb,hw,hfr.1,hs,by simp;omega,fun i v v' a b=> ?_⟩
  rw [List.getElem?_take] at b
  split at b
  ·rw [Array.getElem?_toList,Array.getElem?_eq_some_iff] at a b
   obtain ⟨h1,rfl⟩:=a
   obtain ⟨h2,rfl⟩:=b
   exact hv i h1 h2
  ·cases b
 |_=>exact hr.elim
theorem Rep.fru (h:Rep P G ι m w) {k:Nat} {c:Array Value} {e:TypeId} {fr:Nat × Nat} (hk:m.get k=some (.cells c e fr)) {b:Nat} (hb:ι.b k=some b) {c':Array Value} {e':TypeId} {fr':Nat × Nat} (hw:w.heap[b]? =some (.cells c' e' fr')):fr'=(0,0)∨P.underlying e=some (.int .u8):=by
 obtain ⟨b2,o',hb2,hw2,hr⟩:=h.obj k _ hk
 rw [hb] at hb2
 cases hb2
 rw [hw] at hw2
 cases hw2
 exact hr.2.1.2.imp id fun q=>q.2
theorem Rep.fload (h:Rep P G ι m w) {q b:Nat} {c:Array Value} {e:TypeId} (hk:m.get q=some (.pending c e)) (hb:ι.b q=some b) {i n:Nat} (hn:i+n≤c.size):
  ∃l,(loadCells ⟨b,fo (ι.x q)+i,none⟩ n).run P w= .ok l.toArray w∧VRl ι ((c.toList.drop i).take n) l∧l.length=n∧ ∀j v,l[j]? =some v→w.cell? ((⟨b,fo (ι.x q)+i,none⟩:Addr).add j)=some v:=by
 obtain ⟨b2,o',hb2,hw,hr⟩:=h.obj q _ hk
 rw [hb] at hb2
 cases hb2
 obtain ⟨c',fr',rfl,hfr,hs,hv⟩:=hr
 have hcell: ∀j v,((c'.toList.drop (fo (ι.x q)+i)).take n)[j]? =some v→w.cell? ((⟨b,fo (ι.x q)+i,none⟩:Addr).add j)=some v:=fun j v hj=>by
  rw [List.getElem?_take] at hj
  split at hj
  ·have hadd: (⟨b,fo (ι.x q)+i,none⟩:Addr).add j=⟨b,fo (ι.x q)+i+j,none⟩:=by unfold Addr.add;split<;>simp_all
   rw [hadd,List.getElem?_drop] at*
   simp only [World.cell?,hw]
   simpa using hj
  ·cases hj
 have hlen: ((c'.toList.drop (fo (ι.x q)+i)).take n).length=n:=by simp;omega
 refine ⟨(c'.toList.drop (fo (ι.x q)+i)).take n,?_,⟨by rw [hlen];simp;omega,fun j v v' hj hj'=> ?_⟩,hlen,hcell⟩
 ·have:=run_loadCells_list (P:=P) w ⟨b,fo (ι.x q)+i,none⟩ ((c'.toList.drop (fo (ι.x q)+i)).take n) hcell
  rwa [hlen] at this
 ·rw [List.getElem?_take] at hj hj'
  split at hj
  ·rename_i hjn
   rw [if_pos hjn] at hj'
   rw [List.getElem?_drop,Array.getElem?_toList,Array.getElem?_eq_some_iff] at hj hj'
   obtain ⟨h1,rfl⟩:=hj
   obtain ⟨h2,h3⟩:=hj'
   have:=hv (i+j) h1 (by omega)
   have e:fo (ι.x q)+ (i+j)=fo (ι.x q)+i+j:=by omega
   simp only [e] at this
   rw [←h3]
   exact this
  ·cases hj
theorem Rep.load (h:Rep P G ι m w) {k b:Nat} {c:Array Value} {e:TypeId} {fr:Nat × Nat} (hk:m.get k=some (.cells c e fr)) (hb:ι.b k=some b) {o n:Nat} (hn:o+n≤c.size):
  ∃l,(loadCells ⟨b,o,none⟩ n).run P w= .ok l.toArray w∧VRl ι ((c.toList.drop o).take n) l∧l.length=n∧ ∀j v,l[j]? =some v→w.cell? ((⟨b,o,none⟩:Addr).add j)=some v:=by
 obtain ⟨b',c',fr',e1,hw,hfr,hs,hv⟩:=h.row hk
 rw [hb] at e1
 cases e1
 have hcell: ∀j v,((c'.toList.drop o).take n)[j]? =some v→w.cell? ((⟨b,o,none⟩:Addr).add j)=some v:=fun j v hj=>by
  rw [List.getElem?_take] at hj
  split at hj
  ·have hadd: (⟨b,o,none⟩:Addr).add j=⟨b,o+j,none⟩:=by unfold Addr.add;split<;>simp_all
   rw [hadd,List.getElem?_drop] at*
   simp only [World.cell?,hw]
   simpa using hj
  ·cases hj
 have hlen: ((c'.toList.drop o).take n).length=n:=by simp;omega
 refine ⟨(c'.toList.drop o).take n,?_,?_,hlen,hcell⟩
 ·have:=run_loadCells_list (P:=P) w ⟨b,o,none⟩ ((c'.toList.drop o).take n) hcell
  rwa [hlen] at this
 ·have:=(hv.drop o).take n
  rw [List.drop_take,List.take_take,show min n (c.size-o)=n by omega] at this
  exact this
theorem setRow_other (w:World) (g:Nat) (c:Array Value) (k:Nat) (h:k≠g): (w.setRow g c).heap[k]? =w.heap[k]? :=by
 simp only [World.setRow,Array.getElem?_modify]
 rw [if_neg (fun e=>h e.symm)]
theorem storeCells_fr (g o:Nat) (t:TypeId) (fz:Nat × Nat): ∀ (vs:List Value) (i:Nat) (cur:Array Value) (w:World),w.heap[g]? =some (.cells cur t fz)→(∀i,i<cur.size→ ¬ (fz.1≤i∧i<fz.2))→o+i+vs.length≤cur.size→(∀v∈vs,v.oneCell'=true)→
  (storeCells ⟨g,o,none⟩ vs i).run P w= .ok () (w.setRow g (cur.toList.take (o+i)++vs++cur.toList.drop (o+i+vs.length)).toArray)
 | [],i,cur,w,hg,_,_,_=>by
  simp only [storeCells,List.append_nil,List.length_nil,Nat.add_zero,List.take_append_drop,Array.toArray_toList]
  rw [setRow_self w g cur t fz hg]
  rfl
 |v::rest,i,cur,w,hg,hf,hl,h1=>by
  have hi:o+i<cur.size:=by simp at hl;omega
  have hadd: (⟨g,o,none⟩:Addr).add i=⟨g,o+i,none⟩:=by unfold Addr.add;split<;>simp_all
  have hcell:w.cell? ⟨g,o+i,none⟩=some cur[o+i] :=by simp [World.cell?,hg,hi]
  have hfro:w.frozen? ⟨g,o+i,none⟩=false:=by
   have:=hf (o+i) hi
   simp only [World.frozen?,hg]
   simpa using this
  have hst: (Go.store ((⟨g,o,none⟩:Addr).add i) v).run P w= .ok () (w.setRow g (cur.setIfInBounds (o+i) v)):=by
   rw [hadd,run_store P w _ v _ (h1 v (by simp)),hcell]
   simp [hfro,setCell_eq_setRow w g (o+i) cur t fz v hg]
  have ih:=storeCells_fr g o t fz rest (i+1) (cur.setIfInBounds (o+i) v) (w.setRow g (cur.setIfInBounds (o+i) v)) (setRow_heap w g cur _ t _ hg) (by simpa using hf) (by simp at hl ⊢;omega) (fun x hx=>h1 x (by simp [hx]))
  simp only [storeCells,Sem.run_bind,hst,Result.andThen_ok,ih,setRow_setRow]
  congr 3
  have e:=list_seg_step cur.toList (o+i) v rest (by simp at hl ⊢;omega)
  simpa [Array.toList_setIfInBounds,Nat.add_assoc] using e
end
end
end Go.Proofs.YtdcioacjhpnihaaGreatDoor
namespace Go.Proofs.YtdcioacjhpnihaaGreatDoor
open Go
noncomputable section
section
variable {P:Program} {G:Nat} {ι:Emb} {m:Mem} {w:World}
theorem Tr.set (h:Rep P G ι m w) {k b:Nat} {o o':Obj} (hk:m.get k≠none) (hb:ι.b k=some b) {m':Mem} (hm: ∀j,m'.get j=if j=k then some o else m.get j) (hn:m'.n=m.n)
  {w':World} (hos:w'.os=w.os) (ht:w'.tape=w.tape) (hou:w'.output=w.output) (hsz:w'.heap.size=w.heap.size) (hw:w'.heap[b]? =some o') (hot: ∀j,j≠b→w'.heap[j]? =w.heap[j]?)
  (hr:objR P ι (ι.x k) o o'):Tr P G ι m w ι m' w':=by
 have hd: ∀j,m'.get j≠none→m.get j≠none:=fun j hj=>by
  rw [hm] at hj
  by_cases e:j=k
  ·rw [e];exact hk
  ·rwa [if_neg e] at hj
 refine ⟨ι.le_refl,⟨fun j oj hj=> ?_,fun i j c hi hj=>h.inj i j c (hd i hi) (hd j hj),fun j hj=>h.new j (hn▸hj),h.glob,h.inv.same hd (Nat.le_of_eq hn.symm) fun j _ hq=>hot j (fun e=>hq k hk (e▸hb))⟩,hos,ht,hou,by omega,fun j hj hq=>hot j (fun e=>hq k hk (e▸hb)),fun j c hj hc _=>⟨j,hd j hj,hc⟩,fun j hj=> .inl (hd j hj),by omega,fun _ _ h=>h⟩
 rw [hm] at hj
 by_cases e:j=k
 ·subst e
  rw [if_pos rfl] at hj
  cases hj
  exact ⟨b,o',hb,hw,hr⟩
 ·rw [if_neg e] at hj
  obtain ⟨c,oj',hc,hw',hr'⟩:=h.obj j oj hj
  refine ⟨c,oj',hc,(hot c fun e'=>e ?_).trans hw',hr'⟩
  subst e'
  exact h.inj j k c (by rw [hj];exact fun e=>by cases e) hk hc hb
def Emb.add (ι:Emb) (k b x:Nat):Emb:=⟨fun j=>if j=k then some b else ι.b j,fun j=>if j=k then x else ι.x j⟩
theorem Emb.le_add {ι:Emb} {k b x:Nat} (h:ι.b k=none):ι.le (ι.add k b x):=fun j c hj=>by
 have:j≠k:=fun e=>by subst e;rw [h] at hj;cases hj
 simp [Emb.add,this,hj]
theorem Emb.add_b (ι:Emb) (k b x:Nat): (ι.add k b x).b k=some b:=by simp [Emb.add]
theorem Emb.add_x (ι:Emb) (k b x:Nat): (ι.add k b x).x k=x:=by simp [Emb.add]
theorem Rep.add (h:Rep P G ι m w) {k x:Nat} {o o':Obj} (hk:ι.b k=none) (hk15:k≠15) {m':Mem} (hm: ∀j,m'.get j=if j=k then some o else m.get j) (hn:m.n≤m'.n) (hkn:k<m'.n)
  (hr:objR P (ι.add k w.heap.size x) x o o'):Rep P G (ι.add k w.heap.size x) m' (w.alloc o'):=by
 have hl:ι.le (ι.add k w.heap.size x):=Emb.le_add hk
 have hold: ∀j,j≠k→(ι.add k w.heap.size x).b j=ι.b j∧m'.get j=m.get j:=fun j e=>by rw [hm,if_neg e];simp [Emb.add,e]
 refine ⟨fun j oj hj=> ?_,fun i j c hi hj ei ej=> ?_,fun j hj=> ?_,fun g hg=>(hl g g (h.glob g hg)).1,h.inv.step hl (fun j hj _=> ?_) (fun j c hj hc hlt=> ?_) hn fun _ hn=> ?_⟩
 rotate_left 3
 ·show (w.heap.push o')[j]? =_
  rw [Array.getElem?_push,if_neg (by omega)]
 ·by_cases e:j=k
  ·subst e
   rw [Emb.add_b] at hc
   cases hc
   exact absurd hlt (Nat.lt_irrefl _)
  ·rw [hm,if_neg e] at hj
   simp only [Emb.add,e,if_false] at hc
   exact ⟨j,hj,hc⟩
 ·rw [(hold 15 (Ne.symm hk15)).1]
  exact hn
 ·by_cases e:j=k
  ·subst e
   rw [hm,if_pos rfl] at hj
   cases hj
   exact ⟨_,o',Emb.add_b ..,by show (w.heap.push o')[w.heap.size]? =_;simp,by rw [Emb.add_x];exact hr⟩
  ·rw [(hold j e).2] at hj
   obtain ⟨c,oj',hc,hw',hr'⟩:=h.obj j oj hj
   refine ⟨c,oj',(hl j c hc).1,?_,by rw [(hl j c hc).2];exact hr'.mono hl⟩
   show (w.heap.push o')[c]? =_
   rw [Array.getElem?_push,if_neg (by have:=(Array.getElem?_eq_some_iff.1 hw').1;omega)]
   exact hw'
 ·by_cases e1:i=k<;>by_cases e2:j=k
  ·omega
  ·subst e1
   rw [Emb.add_b] at ei
   cases ei
   rw [(hold j e2).1] at ej
   rw [(hold j e2).2] at hj
   exact absurd (h.lt hj ej) (Nat.lt_irrefl _)
  ·subst e2
   rw [Emb.add_b] at ej
   cases ej
   rw [(hold i e1).1] at ei
   rw [(hold i e1).2] at hi
   exact absurd (h.lt hi ei) (Nat.lt_irrefl _)
  ·rw [(hold i e1).1] at ei
   rw [(hold i e1).2] at hi
   rw [(hold j e2).1] at ej
   rw [(hold j e2).2] at hj
   exact h.inj i j c hi hj ei ej
 ·have:j≠k:=by omega
  rw [(hold j this).1]
  exact h.new j (by omega)
theorem Tr.new (h:Rep P G ι m w) {k x:Nat} {o o':Obj} (hk:m.n≤k) {m':Mem} (hm: ∀j,m'.get j=if j=k then some o else m.get j) (hkn:k<m'.n)
  (hr:objR P (ι.add k w.heap.size x) x o o'):Tr P G ι m w (ι.add k w.heap.size x) m' (w.alloc o'):=by
 have hb:=h.new k hk
 refine ⟨Emb.le_add hb,h.add hb (by have:=h.inv.low;omega) hm (by omega) hkn hr,rfl,rfl,rfl,by simp,fun j hj _=> ?_,fun j c hj hc hlt=> ?_,fun j hj=> ?_,by omega,fun j hj hn=> ?_⟩
 ·show (w.heap.push o')[j]? =_
  rw [Array.getElem?_push,if_neg (by omega)]
 ·by_cases e:j=k
  ·subst e
   rw [Emb.add_b] at hc
   cases hc
   exact absurd hlt (Nat.lt_irrefl _)
  ·rw [hm,if_neg e] at hj
   simp only [Emb.add,e,if_false] at hc
   exact ⟨j,hj,hc⟩
 ·by_cases e:j=k
  ·exact .inr (e▸hk)
  ·rw [hm,if_neg e] at hj
   exact .inl hj
 ·simp only [Emb.add]
  rw [if_neg (by omega)]
  exact hn
theorem Tr.turn (h:Rep P G ι m w) {k b q x:Nat} {o o':Obj} (hk:m.get k≠none) (hb:ι.b k=some b) (hq:m.n≤q) {m':Mem} (hm: ∀j,m'.get j=if j=q then some o else if j=k then none else m.get j) (hqn:q<m'.n)
  {w':World} (hos:w'.os=w.os) (ht:w'.tape=w.tape) (hou:w'.output=w.output) (hsz:w'.heap.size=w.heap.size) (hw:w'.heap[b]? =some o') (hot: ∀j,j≠b→w'.heap[j]? =w.heap[j]?)
  (hr:objR P (ι.add q b x) x o o'):Tr P G ι m w (ι.add q b x) m' w':=by
 have hqb:=h.new q hq
 have hl:ι.le (ι.add q b x):=Emb.le_add hqb
 have hkq:k≠q:=fun e=>by subst e;rw [hqb] at hb;cases hb
 have hold: ∀j,j≠q→(ι.add q b x).b j=ι.b j:=fun j e=>by simp [Emb.add,e]
 have hd: ∀j,j≠q→m'.get j≠none→j≠k∧m.get j≠none:=fun j e hj=>by
  rw [hm,if_neg e] at hj
  by_cases e2:j=k
  ·rw [if_pos e2] at hj;exact absurd rfl hj
  ·rw [if_neg e2] at hj;exact ⟨e2,hj⟩
 have hkeep: ∀j,j<w.heap.size→(∀k,m.get k≠none→ι.b k≠some j)→w'.heap[j]? =w.heap[j]? :=fun j hj hn=>hot j (fun e=>hn k hk (e▸hb))
 have hrng: ∀j c,m'.get j≠none→(ι.add q b x).b j=some c→c<w.heap.size→ ∃i,m.get i≠none∧ι.b i=some c:=fun j c hj hc hlt=>by
  by_cases e:j=q
  ·subst e
   rw [Emb.add_b] at hc
   cases hc
   exact ⟨k,hk,hb⟩
  ·rw [hold j e] at hc
   exact ⟨j,(hd j e hj).2,hc⟩
 refine ⟨hl,⟨fun j oj hj=> ?_,fun i j c hi hj ei ej=> ?_,fun j hj=> ?_,fun g hg=>(hl g g (h.glob g hg)).1,h.inv.step hl hkeep hrng (by omega) fun _ hn=>by rw [hold 15 (by have:=h.inv.low;omega)];exact hn⟩,hos,ht,hou,by omega,hkeep,hrng,fun j hj=> ?_,by omega,fun j hj hn=> ?_⟩
 ·by_cases e:j=q
  ·subst e
   rw [hm,if_pos rfl] at hj
   cases hj
   exact ⟨b,o',Emb.add_b ..,hw,by rw [Emb.add_x];exact hr⟩
  ·have hj0:m'.get j≠none:=by rw [hj];exact fun e=>by cases e
   obtain ⟨e2,h2⟩:=hd j e hj0
   rw [hm,if_neg e,if_neg e2] at hj
   obtain ⟨c,oj',hc,hw',hr'⟩:=h.obj j oj hj
   refine ⟨c,oj',(hl j c hc).1,(hot c fun e'=>e2 ?_).trans hw',by rw [(hl j c hc).2];exact hr'.mono hl⟩
   subst e'
   exact h.inj j k c h2 hk hc hb
 ·by_cases e1:i=q<;>by_cases e2:j=q
  ·omega
  ·subst e1
   rw [Emb.add_b] at ei
   cases ei
   obtain ⟨h1,h2⟩:=hd j e2 hj
   rw [hold j e2] at ej
   exact absurd (h.inj j k b h2 hk ej hb) h1
  ·subst e2
   rw [Emb.add_b] at ej
   cases ej
   obtain ⟨h1,h2⟩:=hd i e1 hi
   rw [hold i e1] at ei
   exact absurd (h.inj i k b h2 hk ei hb) h1
  ·rw [hold i e1] at ei
   rw [hold j e2] at ej
   exact h.inj i j c (hd i e1 hi).2 (hd j e2 hj).2 ei ej
 ·have:j≠q:=by omega
  rw [hold j this]
  exact h.new j (by omega)
 ·by_cases e:j=q
  ·exact .inr (e▸hq)
  ·exact .inl (hd j e hj).2
 ·rw [hold j (by omega)]
  exact hn
theorem Rep.store (h:Rep P G ι m w) {k b:Nat} {c:Array Value} {e:TypeId} {fr:Nat × Nat} (hk:m.get k=some (.cells c e fr)) (hb:ι.b k=some b) {o:Nat} {l l':List Value} (hn:o+l.length≤c.size)
  (hl:VRl ι l l') (h1:l.all (·.oneCell')=true) {m':Mem} (hm: ∀j,m'.get j=if j=k then some (.cells (c.toList.take o++l++c.toList.drop (o+l.length)).toArray e (0,0)) else m.get j) (hmn:m'.n=m.n):
  ∃w',(storeCells ⟨b,o,none⟩ l').run P w= .ok () w'∧Tr P G ι m w ι m' w':=by
 obtain ⟨b',c',fr',e1,hw,hfr,hs,hv⟩:=h.row hk
 rw [hb] at e1
 cases e1
 have hll:=hl.1
 have hrun:=storeCells_fr (P:=P) b o e fr' l' 0 c' w hw hfr (by omega) (hl.one h1)
 refine ⟨_,hrun,Tr.set h (by rw [hk];exact fun e=>by cases e) hb hm hmn rfl rfl rfl (by simp [World.setRow]) (setRow_heap w b c' _ e fr' hw) (fun j hj=>setRow_other w b _ j hj) ?_⟩
 have hvl:VRl ι (c.toList.take o++l++c.toList.drop (o+l.length)) (((c'.toList.take o++l'++c'.toList.drop (o+l'.length))).take c.size):=by
  have e2: (c'.toList.take o++l'++c'.toList.drop (o+l'.length)).take c.size=(c'.toList.take c.size).take o++l'++ (c'.toList.take c.size).drop (o+l'.length):=by
   have a1: (c'.toList.take o++l').length=o+l'.length:=by simp;omega
   rw [List.take_append,a1,List.take_of_length_le (by rw [a1];omega),List.take_take,Nat.min_eq_left (by omega),List.drop_take]
  rw [e2, ←hll]
  exact ((hv.take o).append hl).append (hv.drop (o+l.length))
 refine ⟨rfl,⟨fun i hi=>hfr i (by simp at hi;omega),(h.fru hk hb hw).imp id fun q=>⟨rfl,q⟩⟩,by simp;omega,fun i a b=> ?_⟩
 refine hvl.2 i _ _ ?_ ?_
 ·simp
 ·rw [List.getElem?_take,if_pos (by simp at a;omega)]
  simp
end
end
end Go.Proofs.YtdcioacjhpnihaaGreatDoor
namespace Go.Proofs.YtdcioacjhpnihaaGreatDoor
open Go
noncomputable section
structure Cfg where
 G:Nat
 tt:T TypeInfo
 dz:List FuncId
def Cfg.und (C:Cfg) (t:TypeId):Option TypeDesc:=
 match C.tt.get t with
 |some i=>match i.desc with
  | .named _ u=>match C.tt.get u with
   |some j=>some j.desc
   |none=>none
  |d=>some d
 |none=>none
def Cfg.size (C:Cfg) (t:TypeId):Option Nat:=match C.tt.get t with |some i=>some i.size |none=>none
def Cfg.ok (C:Cfg) (P:Program):Prop:=(∀t i,C.tt.get t=some i→P.info? t=some i)∧ ∀d f,C.dz[d]? =some f→P.funcNamed (doesN d)=some f
section
variable {C:Cfg} {P:Program} (hC:C.ok P)
include hC
theorem Cfg.und_ok {t:TypeId} {d:TypeDesc} (h:C.und t=some d):P.underlying t=some d:=by
 unfold Cfg.und at h
 split at h
 ·rename_i i hi
  have hi:=hC.1 t i hi
  split at h
  ·rename_i n u hd
   split at h
   ·rename_i j hj
    have hj:=hC.1 u j hj
    unfold Program.underlying
    rw [hi]
    obtain ⟨desc⟩:=i
    simp only at hd
    subst hd
    simp only [hj,Option.map_some]
    exact h
   ·cases h
  ·rename_i d' hnn
   unfold Program.underlying
   rw [hi]
   obtain ⟨desc⟩:=i
   simp only at h hnn ⊢
   cases h
   cases d<;>first |rfl |exact (hnn _ _ rfl).elim
 ·cases h
theorem Cfg.info_ok {t:TypeId} {n:Nat} (h:C.size t=some n): ∃i,P.info? t=some i∧i.size=n:=by
 unfold Cfg.size at h
 split at h
 ·rename_i i hi
  cases h
  exact ⟨i,hC.1 t i hi,rfl⟩
 ·cases h
theorem Cfg.run_size {t:TypeId} {n:Nat} (h:C.size t=some n) (w:World): (sizeOf t).run P w= .ok n w:=by
 obtain ⟨i,hi,rfl⟩:=Cfg.info_ok hC h
 simp [sizeOf,typeInfo,hi]
theorem Cfg.cellsOf {t:TypeId} {n:Nat} (h:C.size t=some n):P.cellsOf t=n:=by
 obtain ⟨i,hi,rfl⟩:=Cfg.info_ok hC h
 simp [Program.cellsOf,hi]
theorem Cfg.run_und {t:TypeId} {d:TypeDesc} (h:C.und t=some d) (w:World): (underlying t).run P w= .ok d w:=by
 simp [underlying,Cfg.und_ok hC h]
end
def aggD:TypeDesc→Bool
 | .struct _ | .array _ _=>true
 |_=>false
theorem Cfg.run_agg {C:Cfg} {P:Program} (hC:C.ok P) {t:TypeId} {d:TypeDesc} (h:C.und t=some d) (w:World): (isAgg t).run P w= .ok (aggD d) w:=by
 unfold isAgg
 rw [Sem.run_bind,Cfg.run_und hC h]
 cases d<;>rfl
def aev (C:Cfg) (a:Act):Operand→Option Value
 | .tmp t=>a.tmps[t]?
 | .const v=>if flat v then some v else none
 | .global g=>if g<C.G then some (.pointer (some ⟨g,0,none⟩)) else none
 | .func f=>some (.func (.func f) #[] #[])
theorem aev_ok {C:Cfg} {P:Program} {ι:Emb} {m:Mem} {w:World} (h:Rep P C.G ι m w) {a ac:Act} {x:Operand} (ha: ∀t,x= .tmp t→ ∀v,a.tmps[t]? =some v→VR ι v (ac.tmps.getD t undef)) {v:Value} (hv:aev C a x=some v):VR ι v (ac.eval x):=by
 cases x with
 |tmp t=>exact ha t rfl v hv
 |const c=>
  simp only [aev] at hv
  split at hv
  ·rename_i hf
   cases hv
   exact VR.flat ι hf
  ·cases hv
 |global g=>
  simp only [aev] at hv
  split at hv
  ·rename_i hg
   cases hv
   exact .ptr (h.glob g hg)
  ·cases hv
 |func f=>cases hv;exact VR.flat ι rfl
def semP (P:Program) {α:Type}:Sem α→Option α
 | .pure a=>some a
 | .program k=>semP P (k P)
 |_=>none
theorem semP_run {P:Program} {α:Type}: ∀ (s:Sem α) {a:α},semP P s=some a→ ∀w,s.run P w= .ok a w
 | .pure a,b,h,w=>by cases h;rfl
 | .program k,b,h,w=>semP_run (k P) h w
 | .load ..,_,h,_ | .store ..,_,h,_ | .new ..,_,h,_ | .shape ..,_,h,_ | .freeze ..,_,h,_ | .frozen ..,_,h,_ | .getObj ..,_,h,_ | .setObj ..,_,h,_ | .choose ..,_,h,_ | .sys ..,_,h,_ | .mark ..,_,h,_ | .halt ..,_,h,_=>by cases h
def aflat (C:Cfg) (P:Program) (a:Act) (o:Oper):Option Value:=
 if o.op.operands.toList.all (fun x=>match aev C a x with |some v=>flat v |none=>false) then
  match semP P (execOp a.eval o) with
  |some (.value v)=>if flat v then some v else none
  |_=>none
 else none
theorem aev_eval {C:Cfg} {a:Act} {x:Operand} {v:Value} (h:aev C a x=some v):a.eval x=v:=by
 cases x with
 |tmp t=>
  simp only [aev] at h
  obtain ⟨h1,rfl⟩:=Array.getElem?_eq_some_iff.1 h
  simp [Act.eval,h1]
 |const c=>
  simp only [aev] at h
  split at h
  ·cases h;rfl
  ·cases h
 |global g=>
  simp only [aev] at h
  split at h
  ·cases h;rfl
  ·cases h
 |func f=>cases h;rfl
theorem aflat_ok {C:Cfg} {P:Program} {ι:Emb} {a ac:Act} {o:Oper} (hs: ∀cs b,o.op≠ .select cs b) {v:Value} (h:aflat C P a o=some v) (ho: ∀x∈o.op.operands, ∀v,aev C a x=some v→VR ι v (ac.eval x)) (w:World):
  (execOp ac.eval o).run P w= .ok (.value v) w∧flat v=true:=by
 unfold aflat at h
 split at h
 ·rename_i hall
  have he:execOp ac.eval o=execOp a.eval o:=execOp_congr o hs fun x hx=>by
   have h1:=List.all_eq_true.1 hall x (Array.mem_toList_iff.2 hx)
   split at h1
   ·rename_i u hu
    rw [(ho x hx u hu).flatE h1,aev_eval hu]
   ·cases h1
  split at h
  ·rename_i u hu
   split at h
   ·rename_i hf
    cases h
    rw [he]
    exact ⟨semP_run _ hu w,hf⟩
   ·cases h
  ·cases h
 ·cases h
theorem add_none (b o n:Nat): (⟨b,o,none⟩:Addr).add n=⟨b,o+n,none⟩:=by unfold Addr.add;split<;>simp_all
def Mem.set (m:Mem) (k:Nat) (o:Obj):Mem:=⟨fun j=>if j=k then some o else m.get j,m.n⟩
theorem Mem.set_get (m:Mem) (k:Nat) (o:Obj): (m.set k o).get k=some o:=by simp [Mem.set]
theorem mEq_set {m:Mem} {k:Nat} {o p:Obj} (h:m.get k=some o) (he:oEq o p):mEq m (m.set k p):=by
 refine ⟨rfl,fun j=> ?_,fun j o1 o2 h1 h2=> ?_⟩
 ·by_cases e:j=k
  ·subst e;simp [Mem.set,h]
  ·simp [Mem.set,e]
 ·by_cases e:j=k
  ·subst e
   simp only [Mem.set,if_true] at h2
   rw [h] at h1
   cases h1
   cases h2
   exact he
  ·simp only [Mem.set,e,if_false] at h2
   rw [h1] at h2
   cases h2
   exact .refl _
theorem Rep.chunks {P:Program} {G:Nat} {ι:Emb} {m:Mem} {w:World} (h:Rep P G ι m w) {k e z a:Nat} {buf:Array Value} {b:Bool} (hk:m.get k=some (.chan e buf false z a b)):0<z∧ ∀v∈buf.toList,chOk z v:=by
 obtain ⟨_,_,_,_,hr⟩:=h.obj k _ hk
 exact ⟨hr.1,hr.2.1⟩
theorem flatC_len {z:Nat}: ∀ {l:List Value},(∀v∈l,chOk z v)→(flatC l).length=l.length*z
 | [],_=>by simp [flatC]
 |v::l,h=>by
  have:=flatC_len (l:=l) fun u hu=>h u (by simp [hu])
  have hv:=(h v (by simp)).1
  simp only [flatC,List.flatMap_cons,List.length_append,Array.length_toList,hv,List.length_cons,Nat.succ_mul] at this ⊢
  omega
theorem flatC_seg {z:Nat}: ∀ {l:List Value} (i:Nat) {v:Value},(∀v∈l,chOk z v)→l[i]? =some v→((flatC l).drop (i*z)).take z=v.cells.toList∧i*z+z≤ (flatC l).length
 | [],i,v,_,h=>by simp at h
 |u::l,0,v,hl,h=>by
  simp at h
  subst h
  have hv:=(hl u (by simp)).1
  simp only [flatC,List.flatMap_cons,Nat.zero_mul,List.drop_zero,List.length_append,Array.length_toList,hv]
  refine ⟨?_,by omega⟩
  rw [List.take_append_of_le_length (by simp [hv]),List.take_of_length_le (by simp [hv])]
 |u::l,i+1,v,hl,h=>by
  have hu:=(hl u (by simp)).1
  obtain ⟨h1,h2⟩:=flatC_seg (l:=l) i (fun w hw=>hl w (by simp [hw])) (by simpa using h)
  have e: (i+1)*z=u.cells.toList.length+i*z:=by simp [hu,Nat.succ_mul,Nat.add_comm]
  simp only [flatC,List.flatMap_cons] at h1 h2 ⊢
  rw [e,List.drop_append,List.drop_of_length_le (by omega),List.nil_append,show u.cells.toList.length+i*z-u.cells.toList.length=i*z by omega]
  exact ⟨h1,by rw [List.length_append];omega⟩
theorem flatC_set {z:Nat}: ∀ {l:List Value} (i:Nat) {v:Value},(∀v∈l,chOk z v)→i<l.length→v.cells.size=z→flatC (l.set i v)=(flatC l).take (i*z)++v.cells.toList++ (flatC l).drop (i*z+z)
 | [],i,v,_,h,_=>absurd h (Nat.not_lt_zero _)
 |u::l,0,v,hl,h,hv=>by
  have hu:=(hl u (by simp)).1
  simp only [flatC,List.set_cons_zero,List.flatMap_cons,Nat.zero_mul,List.take_zero,List.nil_append,Nat.zero_add]
  rw [List.drop_append,List.drop_of_length_le (by simp [hu]),List.nil_append]
  simp [hu]
 |u::l,i+1,v,hl,h,hv=>by
  have hu:=(hl u (by simp)).1
  have ih:=flatC_set (l:=l) i (fun w hw=>hl w (by simp [hw])) (by simpa using h) hv
  have e: (i+1)*z=u.cells.toList.length+i*z:=by simp [hu,Nat.succ_mul,Nat.add_comm]
  simp only [flatC,List.set_cons_succ,List.flatMap_cons] at ih ⊢
  rw [ih,e,Nat.add_assoc,List.take_length_add_append,List.drop_length_add_append]
  simp [List.append_assoc]
def cload (C:Cfg) (buf:List Value) (z:Nat) (t:TypeId) (o:Nat):Option Value:=match C.und t,C.size t with
 |some d,some n=>if aggD d=true∧n=z∧o%z=0 then (match buf[o/z]? with
  |some (.agg c)=>some (.agg c)
  |_=>none) else none
 |_,_=>none
def aload (C:Cfg) (s:AS) (t:TypeId) (p:Value):Option Value:=
 match p with
 | .pointer (some ⟨k,o,none⟩)=>match s.h.get k with
  |some (.chan _ buf false z _ _)=>cload C buf.toList z t o
  |some (.cells c _ _)=>match C.und t with
   |some d=>if aggD d then (match C.size t with
     |some n=>if o+n≤c.size then some (.agg ((c.toList.drop o).take n).toArray) else none
     |none=>none)
    else c[o]?
   |none=>none
  |_=>none
 | .complex .f32 q i=>match s.h.get q with
  |some (.pending c _)=>match C.und t with
   |some d=>if aggD d then (match C.size t with
     |some n=>if i+n≤c.size then some (.agg ((c.toList.drop i).take n).toArray) else none
     |none=>none)
    else c[i]?
   |none=>none
  |_=>none
 |_=>none
theorem aload_ok {C:Cfg} {P:Program} (hC:C.ok P) {ι:Emb} {s:AS} {w:World} (hr:Rep P C.G ι s.mem w) {t:TypeId} {p p' v:Value} (h:aload C s t p=some v) (hp:VR ι p p'):
  ∃v',(Instr.loadAt t p').run P w= .ok v' w∧VR ι v v':=by
 unfold aload at h
 split at h
 ·rename_i k o
  cases hp with
  |ptr hb=>
   rename_i b
   split at h
   ·rename_i e buf z _ _ hk
    obtain ⟨hz,hsz⟩:=Rep.chunks (m:=s.mem) hr hk
    unfold cload at h
    split at h
    ·rename_i d n hd hn
     split at h
     ·rename_i hq
      obtain ⟨hag,rfl,ho⟩:=hq
      split at h
      ·rename_i c hc
       cases h
       obtain ⟨h1,h2⟩:=flatC_seg (z:=n) (o/n) hsz hc
       have ho':o/n*n=o:=by have:=Nat.div_add_mod o n;rw [ho,Nat.add_zero,Nat.mul_comm] at this;exact this
       rw [ho'] at h1 h2
       obtain ⟨l,hl,hv,_,_⟩:=((mEq_set (m:=s.mem) hk (oEq_chunks hz hsz)).rep hr).load (k:=k) (Mem.set_get ..) hb (o:=o) (n:=n) (by simpa using h2)
       have hv2:VRl ι (((flatC buf.toList).drop o).take n) l:=hv
       rw [h1] at hv2
       have hv':VRs ι c l.toArray:=by have:=hv2.s;rwa [Array.toArray_toList] at this
       refine ⟨.agg l.toArray,?_, .agg hv'.1 hv'.2⟩
       simp [Instr.loadAt,Instr.sureAddr,loadVar,Cfg.run_agg hC hd,Cfg.run_size hC hn,hl,hag]
      ·cases h
     ·cases h
    ·cases h
   ·rename_i c e fr hk
    split at h
    ·rename_i d hd
     split at h
     ·rename_i hag
      split at h
      ·rename_i n hn
       split at h
       ·rename_i hle
        cases h
        obtain ⟨l,hl,hv,_,_⟩:=hr.load hk hb hle
        refine ⟨.agg l.toArray,?_, .agg hv.s.1 hv.s.2⟩
        simp [Instr.loadAt,Instr.sureAddr,loadVar,Cfg.run_agg hC hd,Cfg.run_size hC hn,hl,hag]
       ·cases h
      ·cases h
     ·rename_i hag
      obtain ⟨ho,rfl⟩:=Array.getElem?_eq_some_iff.1 h
      obtain ⟨l,hl,hv,hlen,hc⟩:=hr.load (o:=o) (n:=1) hk hb (by omega)
      obtain ⟨v',rfl⟩:=List.length_eq_one_iff.1 hlen
      refine ⟨v',?_,?_⟩
      ·have:=hc 0 v' rfl
       simp only [add_none,Nat.add_zero] at this
       simp [Instr.loadAt,Instr.sureAddr,loadVar,Cfg.run_agg hC hd,hag,this]
      ·refine hv.2 0 _ _ ?_ rfl
       simp [ho]
    ·cases h
   ·cases h
 ·rename_i q i
  cases hp with
  |flP _ hb=>
   rename_i b
   split at h
   ·rename_i c e hk
    split at h
    ·rename_i d hd
     split at h
     ·rename_i hag
      split at h
      ·rename_i n hn
       split at h
       ·rename_i hle
        cases h
        obtain ⟨l,hl,hv,_,_⟩:=Rep.fload (m:=s.mem) hr hk hb hle
        refine ⟨.agg l.toArray,?_, .agg hv.s.1 hv.s.2⟩
        simp [Instr.loadAt,Instr.sureAddr,loadVar,Cfg.run_agg hC hd,Cfg.run_size hC hn,hl,hag]
       ·cases h
      ·cases h
     ·rename_i hag
      obtain ⟨ho,rfl⟩:=Array.getElem?_eq_some_iff.1 h
      obtain ⟨l,hl,hv,hlen,hc⟩:=Rep.fload (m:=s.mem) hr hk hb (i:=i) (n:=1) (by omega)
      obtain ⟨v',rfl⟩:=List.length_eq_one_iff.1 hlen
      refine ⟨v',?_,?_⟩
      ·have:=hc 0 v' rfl
       simp only [add_none,Nat.add_zero] at this
       simp [Instr.loadAt,Instr.sureAddr,loadVar,Cfg.run_agg hC hd,hag,this]
      ·refine hv.2 0 _ _ ?_ rfl
       simp [ho]
    ·cases h
   ·cases h
 ·cases h
def aput (s:AS) (k:Nat) (o:Option Obj):Option AS:=if k<100000000 then some ⟨s.h.put 100000000 k o,s.n⟩ else none
theorem aput_get {s s':AS} {k:Nat} {o:Option Obj} (h:aput s k o=some s') (j:Nat):s'.mem.get j=if j=k then o else s.mem.get j:=by
 unfold aput at h
 split at h
 ·rename_i hk
  cases h
  exact T.get_put _ _ _ _ _ hk
 ·cases h
theorem aput_n {s s':AS} {k:Nat} {o:Option Obj} (h:aput s k o=some s'):s'.n=s.n:=by
 unfold aput at h
 split at h
 ·cases h;rfl
 ·cases h
def anew (s:AS) (o:Obj):Option (Nat × AS):=if s.n<100000000 then some (s.n,⟨s.h.put 100000000 s.n (some o),s.n+1⟩) else none
theorem anew_ok {s s':AS} {k:Nat} {o:Obj} (h:anew s o=some (k,s')):k=s.n∧s'.n=s.n+1∧ ∀j,s'.mem.get j=if j=k then some o else s.mem.get j:=by
 unfold anew at h
 split at h
 ·rename_i hk
  cases h
  exact ⟨rfl,rfl,fun j=>T.get_put _ _ _ _ _ hk⟩
 ·cases h
def astore (C:Cfg) (s:AS) (t:TypeId) (p v:Value):Option AS:=
 match p with
 | .pointer (some ⟨k,o,none⟩)=>match s.h.get k with
  |some (.chan e buf false z a b)=>match C.size t with
   |some n=>if v.cells.size=n∧n=z∧o%z=0∧o/z<buf.size∧v.cells.toList.all (·.oneCell')=true then aput s k (some (.chan e (buf.setIfInBounds (o/z) v) false z a b)) else none
   |none=>none
  |some (.cells c e _)=>match C.size t with
   |some n=>if v.cells.size=n∧o+n≤c.size∧v.cells.toList.all (·.oneCell')=true then
     aput s k (some (.cells (c.toList.take o++v.cells.toList++c.toList.drop (o+v.cells.toList.length)).toArray e (0,0))) else none
   |none=>none
  |_=>none
 |_=>none
theorem astore_ok {C:Cfg} {P:Program} (hC:C.ok P) {ι:Emb} {s s':AS} {w:World} (hr:Rep P C.G ι s.mem w) {t:TypeId} {p p' v v':Value} (h:astore C s t p v=some s') (hp:VR ι p p') (hv:VR ι v v'):
  ∃w',(Instr.storeAt t p' v').run P w= .ok () w'∧Tr P C.G ι s.mem w ι s'.mem w':=by
 unfold astore at h
 split at h
 ·rename_i k o
  cases hp with
  |ptr hb=>
   rename_i b
   split at h
   ·rename_i e buf z a bb hk
    obtain ⟨hz,hsz⟩:=Rep.chunks (m:=s.mem) hr hk
    split at h
    ·rename_i n hn
     split at h
     ·rename_i hq
      obtain ⟨h1,rfl,h2,h3,h4⟩:=hq
      have ho':o/n*n=o:=by have:=Nat.div_add_mod o n;rw [h2,Nat.add_zero,Nat.mul_comm] at this;exact this
      have hset:=flatC_set (o/n) hsz (by simpa using h3) h1
      rw [ho'] at hset
      have hlen:=flatC_len hsz
      have hin:o+n≤ (flatC buf.toList).length:=by
       rw [hlen]
       have: (o/n+1)*n≤buf.toList.length*n:=Nat.mul_le_mul_right n (by rw [Array.length_toList];exact h3)
       rw [Nat.succ_mul,ho'] at this
       exact this
      have hvl:v.cells.toList.length=n:=by simp [h1]
      have he:=mEq_set (m:=s.mem) hk (oEq_chunks hz hsz)
      have hsz': ∀u∈ (buf.setIfInBounds (o/n) v).toList,chOk n u:=fun u hu=>by
       rw [Array.toList_setIfInBounds] at hu
       rcases List.mem_or_eq_of_mem_set hu with h5 |rfl
       ·exact hsz u h5
       ·exact ⟨h1,h4⟩
      have hk':s'.mem.get k=some (.chan e (buf.setIfInBounds (o/n) v) false n a bb):=by rw [aput_get h];simp
      obtain ⟨w',hw',ht⟩:=(he.rep hr).store (k:=k) (Mem.set_get ..) hb (l:=v.cells.toList) (l':=v'.cells.toList) (o:=o) (by simp [h1];omega) hv.cells h4
       (m':=s'.mem.set k (.cells (flatC (buf.setIfInBounds (o/n) v).toList).toArray e (0,0))) (fun j=>by
        simp only [Mem.set]
        by_cases hj:j=k
        ·subst hj
         simp only [if_true]
         rw [Array.toList_setIfInBounds,hset,hvl]
        ·simp only [hj,if_false]
         rw [aput_get h,if_neg hj]) (by simp only [Mem.set];exact aput_n h)
      refine ⟨w',?_,he.symm.tr (mEq_set hk' (oEq_chunks hz hsz')).symm ht⟩
      have hsz2:v'.cells.size=n:=by have:=hv.cells.1;simp at this;omega
      simp [Instr.storeAt,Instr.sureAddr,storeVar,Cfg.run_size hC hn,hsz2,hw']
     ·cases h
    ·cases h
   ·rename_i c e fr hk
    split at h
    ·rename_i n hn
     split at h
     ·rename_i hq
      obtain ⟨h1,h2,h3⟩:=hq
      obtain ⟨w',hw',ht⟩:=hr.store hk hb (l:=v.cells.toList) (l':=v'.cells.toList) (o:=o) (by simp;omega) hv.cells h3 (aput_get h) (aput_n h)
      refine ⟨w',?_,ht⟩
      have hsz:v'.cells.size=n:=by have:=hv.cells.1;simp at this;omega
      simp [Instr.storeAt,Instr.sureAddr,storeVar,Cfg.run_size hC hn,hsz,hw']
     ·cases h
    ·cases h
   ·cases h
 ·cases h
def arow (s:AS) (e:TypeId) (c:Array Value):Option (Nat × AS):=anew s (.cells c e (0,0))
theorem arow_ok {C:Cfg} {P:Program} {ι:Emb} {s s':AS} {w:World} (hr:Rep P C.G ι s.mem w) {e:TypeId} {c c':Array Value} {k:Nat} (h:arow s e c=some (k,s')) (hc:VRs ι c c'):
  ∃ι' b,(newRow e c').run P w= .ok ⟨b,0,none⟩ (w.alloc (.cells c' e))∧Tr P C.G ι s.mem w ι' s'.mem (w.alloc (.cells c' e))∧ι'.b k=some b∧ι'.x k=0:=by
 obtain ⟨rfl,hn,hg⟩:=anew_ok h
 refine ⟨ι.add s.n w.heap.size 0,w.heap.size,by simp [newRow],Tr.new hr (Nat.le_refl _) hg (by show s.n<s'.n;omega) ?_,Emb.add_b ..,Emb.add_x ..⟩
 have hl:ι.le (ι.add s.n w.heap.size 0):=Emb.le_add (hr.new _ (Nat.le_refl _))
 exact ⟨rfl,⟨fun i _=>by simp, .inl rfl⟩,by simp [hc.1],fun i a b=>(hc.2 i a b).mono hl⟩
def abox (s:AS) (t:TypeId) (v:Value):Option (Value × AS):=match arow s t v.cells with
 |some (k,s')=>some (.pointer (some ⟨k,0,none⟩),s')
 |none=>none
theorem abox_ok {C:Cfg} {P:Program} {ι:Emb} {s s':AS} {w:World} (hr:Rep P C.G ι s.mem w) {t:TypeId} {v v' u:Value} (h:abox s t v=some (u,s')) (hv:VR ι v v'):
  ∃ι' w' u',(Instr.box t v').run P w= .ok u' w'∧Tr P C.G ι s.mem w ι' s'.mem w'∧VR ι' u u':=by
 unfold abox at h
 split at h
 ·rename_i k s0 hk
  cases h
  have hc:VRs ι v.cells v'.cells:=by have:=hv.cells.s;simpa using this
  obtain ⟨ι',b,h1,h2,h3,h4⟩:=arow_ok hr hk hc
  exact ⟨ι',_, .pointer (some ⟨b,0,none⟩),by simp [Instr.box,newVar,h1],h2, .ptr h3⟩
 ·cases h
def flatA (v:Value):Bool:=match v with
 | .agg c=>c.toList.all flat1
 |_=>flat v
theorem flatA_ok {v:Value} (h:flatA v=true):flat v=true:=by
 unfold flatA at h
 split at h
 ·rename_i c
  show c.all flat1=true
  rw [←Array.all_toList]
  exact h
 ·exact h
def azero (C:Cfg) (t:TypeId):Option Value:=match C.tt.get t with
 |some i=>match i.zero with
  |some z=>if flatA z then some z else none
  |none=>none
 |none=>none
theorem azero_ok {C:Cfg} {P:Program} (hC:C.ok P) {t:TypeId} {z:Value} (h:azero C t=some z) (w:World): (zeroValue t).run P w= .ok z w∧flat z=true:=by
 unfold azero at h
 split at h
 ·rename_i i hi
  split at h
  ·rename_i z' hz
   split at h
   ·rename_i hf
    cases h
    refine ⟨?_,flatA_ok hf⟩
    have:=hC.1 t i hi
    simp [zeroValue,typeInfo,this,hz]
   ·cases h
  ·cases h
 ·cases h
def aalloc (C:Cfg) (s:AS) (t:TypeId):Option (Value × AS):=match azero C t with
 |some z=>abox s t z
 |none=>none
theorem aalloc_ok {C:Cfg} {P:Program} (hC:C.ok P) {ι:Emb} {s s':AS} {w:World} (hr:Rep P C.G ι s.mem w) {t:TypeId} {u:Value} (h:aalloc C s t=some (u,s')):
  ∃ι' w' u',(Instr.alloc t true (.tuple #[])).run P w= .ok u' w'∧Tr P C.G ι s.mem w ι' s'.mem w'∧VR ι' u u':=by
 unfold aalloc at h
 split at h
 ·rename_i z hz
  obtain ⟨hz1,hz2⟩:=azero_ok hC hz w
  obtain ⟨ι',w',u',h1,h2,h3⟩:=abox_ok hr h (VR.flat ι hz2)
  refine ⟨ι',w',u',?_,h2,h3⟩
  simpa [Instr.alloc,hz1,Instr.box] using h1
 ·cases h
def afieldA (C:Cfg) (t:TypeId) (p:Value) (f:Nat):Option Value:=
 match p with
 | .pointer (some ⟨k,o,none⟩)=>match C.und t with
  |some (.struct fs)=>match fs[f]? with
   |some fd=>match C.size fd.type with
    |some n=>if n=0 then none else some (.pointer (some ⟨k,o+fd.offset,none⟩))
    |none=>none
   |none=>none
  |_=>none
 |_=>none
theorem afieldA_ok {C:Cfg} {P:Program} (hC:C.ok P) {ι:Emb} {t:TypeId} {p p' v:Value} {f:Nat} (h:afieldA C t p f=some v) (hp:VR ι p p') (w:World): ∃v',(Instr.fieldAt t p' f).run P w= .ok v' w∧VR ι v v':=by
 unfold afieldA at h
 split at h
 ·rename_i k o
  cases hp with
  |ptr hb=>
   rename_i b
   split at h
   ·rename_i fs hd
    split at h
    ·rename_i fd hf
     split at h
     ·rename_i n hn
      split at h
      ·cases h
      ·rename_i hz
       cases h
       refine ⟨.pointer (some ⟨b,o+fd.offset,none⟩),?_, .ptr hb⟩
       simp [Instr.fieldAt,Cfg.run_und hC hd,hf,Instr.sureAddr,fieldPlace,Cfg.run_size hC hn,hz,add_none]
     ·cases h
    ·cases h
   ·cases h
 ·cases h
def aindexA (C:Cfg) (t:TypeId) (p:Value) (ix:Value):Option Value:=
 match ix with
 | .int _ i=>match C.und t,p with
  |some (.array n e), .pointer (some ⟨k,o,none⟩)=>match C.size e with
   |some z=>if 0≤i∧i<n then some (.pointer (some ⟨k,o+i.toNat*z,none⟩)) else none
   |none=>none
  |some (.slice e), .slice (some ⟨k,o,_⟩) n _=>match C.size e with
   |some z=>if 0≤i∧i<n then some (.pointer (some ⟨k,o+i.toNat*z,none⟩)) else none
   |none=>none
  |some (.slice e), .complex .f64 q n=>match C.size e with
   |some z=>if 0≤i∧i<n then some (.complex .f32 q (i.toNat*z)) else none
   |none=>none
  |_,_=>none
 |_=>none
theorem aindexA_ok {C:Cfg} {P:Program} (hC:C.ok P) {ι:Emb} {t:TypeId} {p p' ix ix' v:Value} (h:aindexA C t p ix=some v) (hp:VR ι p p') (hi:VR ι ix ix') (w:World): ∃v',(Instr.indexAt t p' ix').run P w= .ok v' w∧VR ι v v':=by
 unfold aindexA at h
 split at h
 ·rename_i kd i
  cases hi
  split at h
  ·rename_i n e k o hd
   cases hp with
   |ptr hb=>
    rename_i b
    split at h
    ·rename_i z hz
     split at h
     ·rename_i hlt
      cases h
      refine ⟨.pointer (some ⟨b,o+i.toNat*z,none⟩),?_, .ptr hb⟩
      simp [Instr.indexAt,asIntOf,Cfg.run_und hC hd,Instr.sureAddr,hlt,Cfg.run_size hC hz,add_none]
     ·cases h
    ·cases h
  ·rename_i e k o sp n c hd
   split at h
   ·rename_i z hz
    split at h
    ·rename_i hlt
     cases h
     cases hp with
     |slX _ _ hb=>
      rename_i b
      refine ⟨.pointer (some ⟨b,o+i.toNat*z,none⟩),?_, .ptr hb⟩
      simp [Instr.indexAt,asIntOf,Cfg.run_und hC hd,Instr.sureAddr,hlt,Cfg.run_size hC hz,add_none]
     |slG _ _ hb hm9=>
      rename_i b
      refine ⟨.pointer (some ⟨b,o+i.toNat*z,none⟩),?_, .ptr hb⟩
      simp [Instr.indexAt,asIntOf,Cfg.run_und hC hd,Instr.sureAddr,hlt,Cfg.run_size hC hz,add_none]
     |slE=>omega
     |slT=>omega
    ·cases h
   ·cases h
  ·rename_i e q n hd
   split at h
   ·rename_i z hz
    split at h
    ·rename_i hlt
     cases h
     cases hp with
     |flS _ hb hn=>
      rename_i b
      refine ⟨.pointer (some ⟨b,fo (ι.x q)+i.toNat*z,none⟩),?_, .flP _ hb⟩
      simp [Instr.indexAt,asIntOf,Cfg.run_und hC hd,Instr.sureAddr,hlt,Cfg.run_size hC hz,add_none]
    ·cases h
   ·cases h
  ·cases h
 ·cases h
end
end Go.Proofs.YtdcioacjhpnihaaGreatDoor
namespace Go.Proofs.YtdcioacjhpnihaaGreatDoor
open Go
noncomputable section
section
variable {P:Program} {G:Nat} {ι:Emb} {m:Mem} {w:World}
theorem Rep.drew (h:Rep P G ι m w):Rep P G ι m w.drew:=⟨h.obj,h.inj,h.new,h.glob,h.inv.low,h.inv.pin⟩
theorem Tr.drew (h:Rep P G ι m w):Tr P G ι m w ι m w.drew:=
 ⟨ι.le_refl,h.drew,rfl,rfl,rfl,Nat.le_refl _,fun _ _ _=>rfl,fun k _ hk hb _=>⟨k,hk,hb⟩,fun _ h=> .inl h,Nat.le_refl _,fun _ _ h=>h⟩
end
theorem growBy_le (n:Nat): ∀ (r c:Nat),Builtin.growBy n r c≤max c (n+ (n+768)/4)
 |0,c=>by simp only [Builtin.growBy];omega
 |r+1,c=>by
  simp only [Builtin.growBy]
  split
  ·omega
  ·have:=growBy_le n r (c+ (c+768)/4)
   omega
theorem nextcap_le {need old:Nat} (h:old<need):Builtin.nextslicecap need old≤2*need+192:=by
 unfold Builtin.nextslicecap
 split
 ·omega
 ·split
  ·omega
  ·have:=growBy_le need 4 old
   omega
def lenV:Value→Option Nat
 | .slice _ n _=>some n
 | .complex .f64 _ n=>some n
 | .string s=>some s.size
 |_=>none
def afirst (s:AS) (z n:Nat) (x:Value):Option (List Value):=if n=0 then (match x with | .slice .. | .string _ | .complex .f64 .. =>some [] |_=>none) else match x with
 | .slice (some ⟨k,o,_⟩) len _=>match s.h.get k with
  |some (.cells c _ _)=>if n≤len∧o+n*z≤c.size∧((c.toList.drop o).take (n*z)).all (·.oneCell')=true then some ((c.toList.drop o).take (n*z)) else none
  |_=>none
 | .string b=>if z=1∧n≤b.size then some ((byteCells b).take n) else none
 |_=>none
theorem VRl.refl1 (ι:Emb) {l:List Value} (h: ∀v∈l,flat1 v=true):VRl ι l l:=⟨rfl,fun i v v' a b=>by
 rw [a] at b
 cases b
 exact VR.flat1 ι (h v (List.mem_of_getElem? a))⟩
theorem byteCells_flat (b:ByteArray): ∀v∈byteCells b,flat1 v=true:=fun v hv=>by
 obtain ⟨_,_,rfl⟩:=List.mem_map.1 hv
 rfl
theorem afirst_ok {C:Cfg} {P:Program} {ι:Emb} {s:AS} {w:World} (hr:Rep P C.G ι s.mem w) {z n:Nat} {x x':Value} {l:List Value} (h:afirst s z n x=some l) (hx:VR ι x x'):
  ∃l',VRl ι l l'∧l'.length=n*z∧(∀v∈l',v.oneCell'=true)∧ ∀w':World,w'.heap=w.heap→(Builtin.firstCells z n x').run P w'= .ok l'.toArray w':=by
 unfold afirst at h
 split at h
 ·rename_i hn
  subst hn
  split at h
  ·cases h
   refine ⟨[],VRl.nil,by simp,(fun v h=>by cases h),fun w' _=> ?_⟩
   cases hx<;>simp [Builtin.firstCells,loadCells,loadCellsFrom]
  ·cases h
   cases hx
   exact ⟨[],VRl.nil,by simp,(fun v h=>by cases h),fun w' _=>by simp [Builtin.firstCells]⟩
  ·cases h
   cases hx
   exact ⟨[],VRl.nil,by simp,(fun v h=>by cases h),fun w' _=>by simp [Builtin.firstCells,loadCells,loadCellsFrom]⟩
  ·cases h
 rename_i hn0
 split at h
 ·rename_i k o sp len c0
  split at h
  ·rename_i c e fr hk
   split at h
   ·rename_i hq
    obtain ⟨h1,h2,h3⟩:=hq
    cases h
    obtain ⟨b,hb,hx'⟩: ∃b,ι.b k=some b∧ ∃c2,x'= .slice (some ⟨b,o,none⟩) len c2:=by
     cases hx with
     |slX _ _ hb=>exact ⟨_,hb,_,rfl⟩
     |slG _ _ hb hm9=>exact ⟨_,hb,_,rfl⟩
     |slE=>omega
     |slT=>omega
    obtain ⟨c2,rfl⟩:=hx'
    obtain ⟨l,hl,hv,hlen,hc⟩:=hr.load hk hb h2
    refine ⟨l,hv,hlen,hv.one h3,fun w' hw'=> ?_⟩
    refine run_firstCells_some w' z n ⟨b,o,none⟩ len c2 l hlen fun j u hj=> ?_
    have:=hc j u hj
    simp only [World.cell?] at this ⊢
    rw [hw']
    exact this
   ·cases h
  ·cases h
 ·rename_i b
  cases hx
  split at h
  ·rename_i hq
   obtain ⟨rfl,hn⟩:=hq
   cases h
   have hf: ∀v∈ (byteCells b).take n,flat1 v=true:=fun v hv=>byteCells_flat b v (List.mem_of_mem_take hv)
   refine ⟨_,VRl.refl1 ι hf,by rw [List.length_take,byteCells_length];omega,fun v hv=> ?_,fun w' _=> ?_⟩
   ·obtain ⟨_,_,rfl⟩:=List.mem_map.1 (List.mem_of_mem_take hv)
    rfl
   ·simp [Builtin.firstCells,byteCells]
    apply Array.ext'
    simp
  ·cases h
 ·cases h
def agrow (C:Cfg) (s:AS) (e:TypeId) (olds news:List Value) (need:Nat):Option (Value × AS):=
 match C.tt.get e,azero C e with
 |some i,some z=>if need≤1048576∧i.bytes≤1048576∧z.cells.size=i.size then (match arow s e (olds++news).toArray with
   |some (k,s')=>some (.slice (some ⟨k,0,some 0⟩) need need,s')
   |none=>none) else none
 |_,_=>none
def aappB0 (C:Cfg) (s:AS) (e:TypeId) (z n:Nat) (news:List Value) (sv:Value):Option (Value × AS):=
 match sv with
 | .slice none 0 0=>if n=0 then some (.slice none 0 0,s) else agrow C s e [] news n
 | .slice (some ⟨k,o,sp⟩) len c=>if sp=some 1∨sp=some 3 then none else match s.h.get k with
  |some (.cells cs e' _)=>
   if len+n≤c then (if o+len*z+news.length≤cs.size then match aput s k (some (.cells (cs.toList.take (o+len*z)++news++cs.toList.drop (o+len*z+news.length)).toArray e' (0,0))) with
     |some s'=>some (.slice (some ⟨k,o,sp⟩) (len+n) c,s')
     |none=>none else none)
   else match afirst s z len sv with
    |some olds=>match sp with
     |none=>agrow C s e olds news (len+n)
     |some 0=>if o=0∧e'=e∧cs.size=c*z then (match agrow C s e olds news (len+n) with
       |some (v,s')=>match aput s' k none with
        |some s2=>some (v,s2)
        |none=>none
       |none=>none) else none
     |_=>none
    |none=>none
  |_=>none
 |_=>none
def bigZ:Nat:=64
def chunksOf (z:Nat):Nat→List Value→List Value
 |0,_=> []
 |n+1,l=> .agg (l.take z).toArray::chunksOf z n (l.drop z)
def growOk (C:Cfg) (e:TypeId) (z need:Nat):Bool:=match C.tt.get e,azero C e with
 |some i,some zv=>decide (need≤1048576)&&decide (i.bytes≤1048576)&&decide (zv.cells.size=i.size)&&decide (i.size=z)
 |_,_=>false
def agrowC (C:Cfg) (s:AS) (e:TypeId) (z:Nat) (olds:List Value) (news:List Value) (n need:Nat):Option (Value × AS):=
 if growOk C e z need=true then (match anew s (.chan e (olds++chunksOf z n news).toArray false z 0 false) with
  |some (k,s')=>some (.slice (some ⟨k,0,some 0⟩) need need,s')
  |none=>none) else none
def aappB (C:Cfg) (s:AS) (e:TypeId) (z n:Nat) (news:List Value) (sv:Value):Option (Value × AS):=
 match sv with
 | .slice none 0 0=>if bigZ≤z∧0<n then agrowC C s e z [] news n n else aappB0 C s e z n news sv
 | .slice (some ⟨k,o,sp⟩) len c=>match s.h.get k with
  |some (.chan e' buf false z' _ _)=>if sp=some 0∧o=0∧e'=e∧z'=z∧buf.size=c∧len=c∧0<n∧0<len∧k<100000000 then (match agrowC C s e z buf.toList news n (len+n) with
   |some (v,s')=>match aput s' k none with
    |some s2=>some (v,s2)
    |none=>none
   |none=>none) else none
  |_=>aappB0 C s e z n news sv
 |_=>aappB0 C s e z n news sv
def aappT (C:Cfg) (s:AS) (e:TypeId) (n:Nat) (news:List Value) (k o:Nat):Option (Value × AS):=match s.h.get k with
 |some (.cells cs e' _)=>if e'=e∧cs.size=o∧o<flM∧0<n then (match C.tt.get e,azero C e with
  |some i,some z=>if n≤1048576∧i.bytes≤1048576∧z.cells.size=i.size then (match anew s (.pending news.toArray e) with
   |some (q,s')=>match aput s' k none with
    |some s2=>some (.complex .f64 q n,s2)
    |none=>none
   |none=>none) else none
  |_,_=>none) else none
 |_=>none
def aappU (C:Cfg) (s:AS) (e:TypeId) (z n:Nat) (news:List Value) (sv:Value):Option (Value × AS):=match sv with
 | .slice (some ⟨k,o,some 3⟩) 0 0=>aappT C s e n news k o
 |_=>aappB C s e z n news sv
theorem aappB_T {C:Cfg} {s:AS} {e:TypeId} {z n:Nat} {news:List Value} {k o:Nat}:aappB C s e z n news (.slice (some ⟨k,o,some 3⟩) 0 0)=none:=by
 unfold aappB
 simp only
 split
 ·rw [if_neg (by simp)]
 ·unfold aappB0
  simp
theorem aappB_U {C:Cfg} {s:AS} {e:TypeId} {z n:Nat} {news:List Value} {sv:Value} {r:Value × AS} (h:aappB C s e z n news sv=some r):aappU C s e z n news sv=some r:=by
 unfold aappU
 split
 ·rw [aappB_T] at h
  cases h
 ·exact h
def strOrSlice:TypeDesc→Bool
 | .slice _ | .string=>true
 |_=>false
def aappend (C:Cfg) (s:AS) (t tx:TypeId) (sv xv:Value):Option (Value × AS):=
 match C.und t,C.und tx,lenV xv with
 |some (.slice e),some d,some n=>if strOrSlice d then (match C.size e with
  |some z=>match afirst s z n xv with
   |some news=>aappU C s e z n news sv
   |none=>none
  |none=>none) else none
 |_,_,_=>none
theorem Tr.less {P:Program} {G:Nat} {ι ι':Emb} {m m' m2:Mem} {w w':World} (h:Tr P G ι m w ι' m' w') (hs: ∀k o,m2.get k=some o→m'.get k=some o) (hn:m2.n=m'.n):Tr P G ι m w ι' m2 w':=by
 have hd: ∀k,m2.get k≠none→m'.get k≠none:=fun k hk=>by
  obtain ⟨o,ho⟩:=Option.ne_none_iff_exists'.1 hk
  rw [hs k o ho]
  exact fun e=>by cases e
 exact ⟨h.le,h.rep.less hs (by omega),h.os,h.tape,h.output,h.size,h.keep,fun k b hk=>h.rng k b (hd k hk),fun k hk=>h.dom k (hd k hk),by rw [hn];exact h.n,h.res⟩
theorem zeroCells_size (z:Array Value) (n:Nat): (Builtin.zeroCells z n).size=n*z.size:=by simp [Builtin.zeroCells]
theorem agrow_ok {C:Cfg} {P:Program} (hC:C.ok P) {ι:Emb} {s s':AS} {w:World} (hr:Rep P C.G ι s.mem w) {e:TypeId} {olds news olds' news':List Value} {need:Nat} {u:Value} (h:agrow C s e olds news need=some (u,s'))
  (ho:VRl ι olds olds') (hn:VRl ι news news') {i:TypeInfo} {z:Value} (hi:P.info? e=some i) (hz:i.zero=some z) (cap:Nat) (hcap:need≤cap) (hcm:cap≤maxLen):
  ∃ι',Tr P C.G ι s.mem w ι' s'.mem (w.drew.alloc (.cells ((olds'++news').toArray++Builtin.zeroCells z.cells (cap-need)) e))∧VR ι' u (.slice (some ⟨w.heap.size,0,none⟩) need cap):=by
 unfold agrow at h
 split at h
 ·rename_i i0 z0 hi0 hz0
  have hi1:=hC.1 e i0 hi0
  rw [hi] at hi1
  cases hi1
  have hzz:z0=z:=by
   unfold azero at hz0
   rw [hi0] at hz0
   simp only [hz] at hz0
   split at hz0
   ·cases hz0;rfl
   ·cases hz0
  subst hzz
  split at h
  ·rename_i hq
   split at h
   ·rename_i k s0 hk
    cases h
    unfold arow at hk
    obtain ⟨rfl,hn1,hg⟩:=anew_ok hk
    have hl:ι.le (ι.add s.n w.drew.heap.size (cap-need)):=Emb.le_add (hr.new _ (Nat.le_refl _))
    refine ⟨ι.add s.n w.drew.heap.size (cap-need),(Tr.drew hr).trans (Tr.new hr.drew (Nat.le_refl _) hg (by show s.n<s'.n;omega) ⟨rfl,⟨fun i _=>by simp, .inl rfl⟩,?_,fun j a b=> ?_⟩),?_⟩
    ·simp [zeroCells_size,Program.cellsOf,hi,hq.2.2,ho.1,hn.1]
    ·have hv:=(ho.append hn).mono hl
     simp only [List.size_toArray] at a
     simp only [List.getElem_toArray]
     rw [Array.getElem_append_left (by simp;rw [←ho.1, ←hn.1];simpa using a)]
     simp only [List.getElem_toArray]
     exact hv.2 j _ _ (List.getElem?_eq_getElem a) (List.getElem?_eq_getElem _)
    ·have:=VR.slG (ι:=ι.add s.n w.drew.heap.size (cap-need)) (o:=0) need need (Emb.add_b ι s.n w.drew.heap.size (cap-need)) (by rw [Emb.add_x];omega)
     rw [Emb.add_x] at this
     rw [show need+ (cap-need)=cap by omega] at this
     exact this
   ·cases h
  ·cases h
 ·cases h
theorem agrow_need {C:Cfg} {s s':AS} {e:TypeId} {olds news:List Value} {need:Nat} {u:Value} (h:agrow C s e olds news need=some (u,s')): ∃i z,C.tt.get e=some i∧i.zero=some z∧need≤1048576∧i.bytes≤1048576:=by
 unfold agrow at h
 split at h
 ·rename_i i0 z0 hi0 hz0
  split at h
  ·rename_i hq
   refine ⟨i0,z0,hi0,?_,hq.1,hq.2.1⟩
   unfold azero at hz0
   rw [hi0] at hz0
   simp only at hz0
   split at hz0
   ·split at hz0
    ·cases hz0;assumption
    ·cases hz0
   ·cases hz0
  ·cases h
 ·cases h
end
end Go.Proofs.YtdcioacjhpnihaaGreatDoor
namespace Go.Proofs.YtdcioacjhpnihaaGreatDoor
open Go
noncomputable section
theorem grownCap_ge (w:World) (need old:Nat) (e:TypeId):need≤grownCap w need old e:=by
 unfold grownCap
 simp only [Question.cut]
 omega
section
variable {C:Cfg} {P:Program} (hC:C.ok P) {ι:Emb} {s s':AS} {w:World} (hr:Rep P C.G ι s.mem w)
include hC hr
theorem append_new {t tx ty e:TypeId} (ht:P.underlying t=some (.slice e)) {z n len c:Nat} (hz:C.size e=some z) {base:Option Addr} {xv':Value} {olds news olds' news':List Value} (hsrc:Src P z tx xv' n news' w)
  (hol: (Builtin.firstCells z len (.slice base len c)).run P w.drew= .ok olds'.toArray w.drew) (ho:VRl ι olds olds') (hn:VRl ι news news') (hlt:c<len+n) {u:Value} (h:agrow C s e olds news (len+n)=some (u,s')):
  ∃ι' w' u',(Builtin.append_ #[t,tx] ty #[.slice base len c,xv']).run P w= .ok u' w'∧Tr P C.G ι s.mem w ι' s'.mem w'∧VR ι' u u':=by
 obtain ⟨i,zv,hi,hzv,hneed,hby⟩:=agrow_need h
 have hi':=hC.1 e i hi
 have hzi:i.size=z:=by
  unfold Cfg.size at hz
  rw [hi] at hz
  cases hz
  rfl
 subst hzi
 have hnc:=nextcap_le hlt
 have hfit:Builtin.nextslicecap (len+n) c*i.bytes≤281474976710656:=Nat.le_trans (Nat.mul_le_mul (Nat.le_trans hnc (show 2* (len+n)+192≤2097344 by omega)) hby) (by omega)
 have hrun:=run_append_grow_src w t tx ty e i zv ht hi' hzv base len c olds' hol xv' n news' hsrc hlt (by omega) hfit
 obtain ⟨ι',h1,h2⟩:=agrow_ok hC hr h ho hn hi' hzv (grownCap w (len+n) c e) (grownCap_ge ..) (grownCap_le_maxLen w _ _ _ (by unfold maxLen;omega))
 exact ⟨ι',_,_,hrun,h1,h2⟩
omit hr in
theorem append_room {t tx ty e:TypeId} (ht:P.underlying t=some (.slice e)) {z n len c b o:Nat} (hz:C.size e=some z) {xv':Value} {news':List Value} (hsrc:Src P z tx xv' n news' w)
  {cur:Array Value} {et:TypeId} {fz:Nat × Nat} (hw:w.heap[b]? =some (.cells cur et fz)) (hfz: ∀i,i<cur.size→ ¬ (fz.1≤i∧i<fz.2)) (hroom:len+n≤c) (hle:o+len*z+news'.length≤cur.size):
  (Builtin.append_ #[t,tx] ty #[.slice (some ⟨b,o,none⟩) len c,xv']).run P w= .ok (.slice (some ⟨b,o,none⟩) (len+n) c) (w.setRow b (cur.toList.take (o+len*z)++news'++cur.toList.drop (o+len*z+news'.length)).toArray):=by
 obtain ⟨i,hi,rfl⟩:=Cfg.info_ok hC hz
 have hst:=storeCells_fr (P:=P) b (o+len*i.size) et fz news' 0 cur w hw hfz (by omega) hsrc.one
 simp only [Nat.add_zero] at hst
 rcases hsrc.kind with ⟨e',hk⟩|hk<;>simp [Builtin.append_,run_underlying ht,run_underlying hk,sizeOf,typeInfo,hi,hsrc.len,hroom,hsrc.cells,add_none,hst]
end
theorem lenV_ok {ι:Emb} {x x':Value} {n:Nat} (h:lenV x=some n) (hx:VR ι x x'): ∀ (P:Program) (w:World),(Builtin.lenOf x').run P w= .ok n w:=by
 intro P w
 cases hx<;>simp only [lenV] at h<;>first | (cases h;rfl)|cases h
theorem setRow_tr {P:Program} {G:Nat} {ι:Emb} {m m':Mem} {w:World} (h:Rep P G ι m w) {k b:Nat} {c:Array Value} {e:TypeId} {fr:Nat × Nat} (hk:m.get k=some (.cells c e fr)) (hb:ι.b k=some b) {o:Nat} {l l':List Value} (hn:o+l.length≤c.size)
  (hl:VRl ι l l') (hm: ∀j,m'.get j=if j=k then some (.cells (c.toList.take o++l++c.toList.drop (o+l.length)).toArray e (0,0)) else m.get j) (hmn:m'.n=m.n) {c':Array Value} {fr':Nat × Nat} (hw:w.heap[b]? =some (.cells c' e fr')):
  Tr P G ι m w ι m' (w.setRow b (c'.toList.take o++l'++c'.toList.drop (o+l'.length)).toArray):=by
 obtain ⟨b2,c2,fr2,e1,hw2,hfr,hs,hv⟩:=h.row hk
 rw [hb] at e1
 cases e1
 rw [hw] at hw2
 cases hw2
 have hll:=hl.1
 refine Tr.set h (by rw [hk];exact fun e=>by cases e) hb hm hmn rfl rfl rfl (by simp [World.setRow]) (setRow_heap w b c' _ e fr' hw) (fun j hj=>setRow_other w b _ j hj) ?_
 have hvl:VRl ι (c.toList.take o++l++c.toList.drop (o+l.length)) (((c'.toList.take o++l'++c'.toList.drop (o+l'.length))).take c.size):=by
  have e2: (c'.toList.take o++l'++c'.toList.drop (o+l'.length)).take c.size=(c'.toList.take c.size).take o++l'++ (c'.toList.take c.size).drop (o+l'.length):=by
   have a1: (c'.toList.take o++l').length=o+l'.length:=by simp;omega
   rw [List.take_append,a1,List.take_of_length_le (by rw [a1];omega),List.take_take,Nat.min_eq_left (by omega),List.drop_take]
  rw [e2, ←hll]
  exact ((hv.take o).append hl).append (hv.drop (o+l.length))
 refine ⟨rfl,⟨fun i hi=>hfr i (by simp at hi;omega),(h.fru hk hb hw).imp id fun q=>⟨rfl,q⟩⟩,by simp;omega,fun i a b=> ?_⟩
 refine hvl.2 i _ _ ?_ ?_
 ·simp
 ·rw [List.getElem?_take,if_pos (by simp at a;omega)]
  simp
set_option maxHeartbeats 1000000 in
theorem aappB0_ok {C:Cfg} {P:Program} (hC:C.ok P) {ι:Emb} {s s':AS} {w:World} (hr:Rep P C.G ι s.mem w) {t tx ty e:TypeId} {z n:Nat} {sv sv' xv' u:Value} {news news':List Value} (h:aappB0 C s e z n news sv=some (u,s')) (hs:VR ι sv sv')
  (ht:P.underlying t=some (.slice e)) (hz:C.size e=some z) (hsrc:Src P z tx xv' n news' w) (hnv:VRl ι news news') (hnl:news'.length=n*z) (hk: (∃e',P.underlying tx=some (.slice e'))∨P.underlying tx=some .string):
  ∃ι' w' u',(Builtin.append_ #[t,tx] ty #[sv',xv']).run P w= .ok u' w'∧Tr P C.G ι s.mem w ι' s'.mem w'∧VR ι' u u':=by
 unfold aappB0 at h
 split at h
 ·cases hs
  split at h
  ·rename_i hn0
   cases h
   subst hn0
   refine ⟨ι,w, .slice none 0 0,?_,Tr.refl hr, .nilSlice⟩
   obtain ⟨i,hi,rfl⟩:=Cfg.info_ok hC hz
   have hnil:news'= [] :=List.eq_nil_of_length_eq_zero (by simpa using hnl)
   subst hnil
   rcases hk with ⟨e',hk⟩|hk<;>simp [Builtin.append_,run_underlying ht,run_underlying hk,sizeOf,typeInfo,hi,hsrc.len,hsrc.cells]
  ·rename_i hn0
   refine append_new hC hr ht hz (olds:= []) (olds':= []) hsrc ?_ VRl.nil hnv (by omega) (by simpa using h)
   simp [Builtin.firstCells]
 ·rename_i k o sp len c
  split at h
  ·cases h
  rename_i hsp
  split at h
  ·rename_i cs e' fr hkk
   obtain ⟨b,cur,fz,hb,hw,hfz,hsz,hrow⟩:=Rep.row (m:=s.mem) hr hkk
   split at h
   ·rename_i hle
    split at h
    ·rename_i hin
     split at h
     ·rename_i s2 hput
      cases h
      obtain ⟨c2,hc2,hv2,rfl⟩: ∃c2,len+n≤c2∧VR ι (.slice (some ⟨k,o,sp⟩) (len+n) c) (.slice (some ⟨b,o,none⟩) (len+n) c2)∧sv'= .slice (some ⟨b,o,none⟩) len c2:=by
       cases hs with
       |slX _ _ hb2=>rw [hb] at hb2;cases hb2;exact ⟨c,hle, .slX _ _ hb,rfl⟩
       |slG _ _ hb2 hm9=>rw [hb] at hb2;cases hb2;exact ⟨c+ι.x k,by omega, .slG _ _ hb hm9,rfl⟩
       |slE a c2=>exact absurd (.inl rfl) hsp
       |slT=>exact absurd (.inr rfl) hsp
      have hl2:=hnv.1
      have:=append_room hC (ty:=ty) ht hz hsrc hw hfz hc2 (o:=o) (by omega)
      exact ⟨ι,_,_,this,setRow_tr hr hkk hb hin hnv (aput_get hput) (aput_n hput) hw,hv2⟩
     ·cases h
    ·cases h
   ·rename_i hle
    split at h
    ·rename_i olds holds
     obtain ⟨olds',hov,hol,ho1,hor⟩:=afirst_ok hr holds hs
     split at h
     ·
      cases hs with
      |slX _ _ hb2=>
       rw [hb] at hb2
       cases hb2
       exact append_new hC hr ht hz hsrc (hor w.drew rfl) hov hnv (by omega) h
     ·
      split at h
      ·rename_i hq
       obtain ⟨rfl,rfl,hcz⟩:=hq
       split at h
       ·rename_i v s1 hg
        split at h
        ·rename_i s2 hput
         cases h
         cases hs with
         |slG _ _ hb2 hm9=>
          rw [hb] at hb2
          cases hb2
          by_cases hfit:len+n≤c+ι.x k
          ·have hl2:=hnv.1
           have hce:=Cfg.cellsOf hC hz
           have hbig:0+len*z+news'.length≤cur.size:=by
            rw [hsz,hcz,hce,hnl,Nat.zero_add, ←Nat.add_mul, ←Nat.add_mul]
            exact Nat.mul_le_mul_right z hfit
           have hrun:=append_room hC (ty:=ty) ht hz hsrc hw hfz hfit (o:=0) hbig
           unfold agrow at hg
           split at hg
           ·split at hg
            ·split at hg
             ·rename_i q s0 hq0
              cases hg
              unfold arow at hq0
              obtain ⟨rfl,hq1,hq2⟩:=anew_ok hq0
              have hkn:k≠s.n:=fun e=>by
               have:=hr.new s.n (Nat.le_refl _)
               rw [←e,hb] at this
               cases this
              have hget: ∀j,s'.mem.get j=if j=s.n then some (.cells (olds++news).toArray e' (0,0)) else if j=k then none else s.mem.get j:=fun j=>by
               rw [aput_get hput,hq2]
               by_cases e1:j=k
               ·subst e1;simp [hkn]
               ·by_cases e2:j=s.n
                ·subst e2;simp [Ne.symm hkn]
                ·simp [e1,e2]
              have hlen':olds.length=len*z:=by rw [hov.1];exact hol
              refine ⟨ι.add s.n b (c+ι.x k- (len+n)),_,_,hrun,Tr.turn (q:=s.n) hr (by show s.h.get k≠none;rw [hkk];exact fun e=>by cases e) hb (Nat.le_refl _) hget (by show s.n<s'.n;rw [aput_n hput];omega) rfl rfl rfl (by simp [World.setRow]) (setRow_heap w b cur _ e' fz hw) (fun j hj=>setRow_other w b _ j hj) ⟨rfl,⟨fun i hi=>hfz i (by simp at hi;omega),(hr.fru hkk hb hw).imp id fun q=>⟨rfl,q⟩⟩,?_,fun i a b'=> ?_⟩,?_⟩
              ·simp only [List.size_toArray,List.length_append,List.length_take,List.length_drop,Array.length_toList]
               rw [hsz,hcz,hce] at hbig ⊢
               have h9: (c+ι.x k- (len+n))*z=c*z+ι.x k*z- (len*z+n*z):=by rw [Nat.sub_mul,Nat.add_mul,Nat.add_mul]
               rw [hnl] at hbig
               rw [hlen',hl2,hnl,h9]
               omega
              ·have hl:ι.le (ι.add s.n b (c+ι.x k- (len+n))):=Emb.le_add (hr.new _ (Nat.le_refl _))
               have hold2:olds'=cur.toList.take (0+len*z):=by
                have h8:=hor w rfl
                have: (Builtin.firstCells z len (.slice (some ⟨b,0,none⟩) len (c+ι.x k))).run P w= .ok (cur.toList.take (len*z)).toArray w:=by
                 refine run_firstCells_some w z len ⟨b,0,none⟩ len _ _ (by simp;omega) fun j u hj=> ?_
                 rw [add_none]
                 simp only [World.cell?,hw]
                 rw [List.getElem?_take] at hj
                 split at hj
                 ·simpa using hj
                 ·cases hj
                rw [this] at h8
                injection h8 with h8 _
                have:=congrArg Array.toList h8
                simpa using this.symm
               have hv:=((hold2▸hov).append hnv).mono hl
               simp only [List.size_toArray] at a b'
               simp only [List.getElem_toArray]
               rw [List.getElem_append_left (as:=cur.toList.take (0+len*z)++news') (by rw [←hv.1];exact a)]
               exact hv.2 i _ _ (List.getElem?_eq_getElem a) (List.getElem?_eq_getElem _)
              ·have:=VR.slG (ι:=ι.add s.n b (c+ι.x k- (len+n))) (o:=0) (len+n) (len+n) (Emb.add_b ι s.n b (c+ι.x k- (len+n))) (by rw [Emb.add_x];omega)
               rw [Emb.add_x] at this
               rw [show len+n+ (c+ι.x k- (len+n))=c+ι.x k by omega] at this
               exact this
             ·cases hg
            ·cases hg
           ·cases hg
          ·obtain ⟨ι',w',u',h1,h2,h3⟩:=append_new hC hr (ty:=ty) ht hz hsrc (hor w.drew rfl) hov hnv (by omega) hg
           refine ⟨ι',w',u',h1,h2.less (fun j o hj=> ?_) (aput_n hput),h3⟩
           rw [aput_get hput] at hj
           split at hj
           ·cases hj
           ·exact hj
        ·cases h
       ·cases h
      ·cases h
     ·cases h
    ·cases h
  ·cases h
 ·cases h
theorem flatC_append (a b:List Value):flatC (a++b)=flatC a++flatC b:=by simp [flatC]
theorem chunksOf_ok {z:Nat}: ∀ (n:Nat) (l:List Value),l.length=n*z→l.all (·.oneCell')=true→flatC (chunksOf z n l)=l∧ ∀v∈chunksOf z n l,chOk z v
 |0,l,h,_=>by
  have:l= [] :=List.eq_nil_of_length_eq_zero (by simpa using h)
  subst this
  exact ⟨rfl,fun v hv=>by cases hv⟩
 |n+1,l,h,h1=>by
  rw [Nat.succ_mul] at h
  have ha: (l.take z).all (·.oneCell')=true:=List.all_eq_true.2 fun v hv=>List.all_eq_true.1 h1 v (List.mem_of_mem_take hv)
  have hb: (l.drop z).all (·.oneCell')=true:=List.all_eq_true.2 fun v hv=>List.all_eq_true.1 h1 v (List.mem_of_mem_drop hv)
  obtain ⟨h2,h3⟩:=chunksOf_ok (z:=z) n (l.drop z) (by rw [List.length_drop];omega) hb
  refine ⟨?_,fun v hv=> ?_⟩
  ·show (Value.agg (l.take z).toArray).cells.toList++flatC (chunksOf z n (l.drop z))=l
   rw [h2]
   exact List.take_append_drop z l
  ·rcases List.mem_cons.1 hv with rfl |hv
   ·refine ⟨?_,ha⟩
    show (l.take z).toArray.size=z
    simp
    omega
   ·exact h3 v hv
theorem flatC_one {z:Nat} {l:List Value} (h: ∀v∈l,chOk z v): (flatC l).all (·.oneCell')=true:=by
 refine List.all_eq_true.2 fun u hu=> ?_
 obtain ⟨v,hv,hu⟩:=List.mem_flatMap.1 hu
 exact List.all_eq_true.1 (h v hv).2 u hu
theorem agrowC_ok {C:Cfg} {s s':AS} {e:TypeId} {z n need:Nat} {olds news:List Value} {u:Value} (h:agrowC C s e z olds news n need=some (u,s')) (hz:0<z) (ho: ∀v∈olds,chOk z v) (hl:news.length=n*z) (h1:news.all (·.oneCell')=true):
  ∀t:AS,t.n=s.n→ ∃t',agrow C t e (flatC olds) news need=some (u,t')∧(∀j,t'.mem.get j=if j=s.n then some (.cells (flatC olds++news).toArray e (0,0)) else t.mem.get j)∧t'.n=s.n+1∧
   (∀j,s'.mem.get j=if j=s.n then some (.chan e (olds++chunksOf z n news).toArray false z 0 false) else s.mem.get j)∧s'.n=s.n+1∧u= .slice (some ⟨s.n,0,some 0⟩) need need∧oEq (.chan e (olds++chunksOf z n news).toArray false z 0 false) (.cells (flatC olds++news).toArray e (0,0)):=by
 intro t ht
 unfold agrowC at h
 split at h
 ·rename_i hg
  split at h
  ·rename_i k s1 hk
   cases h
   obtain ⟨rfl,hn,hget⟩:=anew_ok hk
   obtain ⟨c1,c2⟩:=chunksOf_ok n news hl h1
   have heq:oEq (.chan e (olds++chunksOf z n news).toArray false z 0 false) (.cells (flatC olds++news).toArray e (0,0)):=by
    have:=oEq_chunks (e:=e) (buf:=(olds++chunksOf z n news).toArray) (a:=0) (t:=false) hz (fun v hv=>by
     rcases List.mem_append.1 hv with h |h
     ·exact ho v h
     ·exact c2 v h)
    rwa [show flatC (olds++chunksOf z n news).toArray.toList=flatC olds++news by rw [show (olds++chunksOf z n news).toArray.toList=olds++chunksOf z n news from rfl,flatC_append,c1]] at this
   have hlt:s.n<100000000:=by
    unfold anew at hk
    split at hk
    ·assumption
    ·cases hk
   unfold growOk at hg
   split at hg
   ·rename_i i zv hi hzv
    simp only [Bool.and_eq_true,decide_eq_true_eq] at hg
    have ha:anew t (.cells (flatC olds++news).toArray e (0,0))=some (s.n,⟨t.h.put 100000000 s.n (some (.cells (flatC olds++news).toArray e (0,0))),s.n+1⟩):=by
     unfold anew
     rw [ht,if_pos hlt]
    refine ⟨_,?_,(anew_ok ha).2.2,rfl,hget,hn,rfl,heq⟩
    unfold agrow
    rw [hi,hzv]
    simp only [arow,ha]
    rw [if_pos ⟨hg.1.1.1,hg.1.1.2,hg.1.2⟩]
   ·cases hg
  ·cases h
 ·cases h
set_option maxHeartbeats 1000000 in
theorem aappB_ok {C:Cfg} {P:Program} (hC:C.ok P) {ι:Emb} {s s':AS} {w:World} (hr:Rep P C.G ι s.mem w) {t tx ty e:TypeId} {z n:Nat} {sv sv' xv' u:Value} {news news':List Value} (h:aappB C s e z n news sv=some (u,s')) (hs:VR ι sv sv')
  (ht:P.underlying t=some (.slice e)) (hz:C.size e=some z) (hsrc:Src P z tx xv' n news' w) (hnv:VRl ι news news') (hnl:news'.length=n*z) (hk: (∃e',P.underlying tx=some (.slice e'))∨P.underlying tx=some .string) (hn1:0<n→1<z→news.all (·.oneCell')=true):
  ∃ι' w' u',(Builtin.append_ #[t,tx] ty #[sv',xv']).run P w= .ok u' w'∧Tr P C.G ι s.mem w ι' s'.mem w'∧VR ι' u u':=by
 have hnl2:news.length=n*z:=by rw [hnv.1];exact hnl
 unfold aappB at h
 split at h
 ·split at h
  ·rename_i hq
   obtain ⟨hq1,hq2⟩:=hq
   have hz1:1<z:=Nat.lt_of_lt_of_le (by unfold bigZ;omega) hq1
   obtain ⟨t',g1,g2,g3,g4,g5,g6,g7⟩:=agrowC_ok h (by omega) (fun v hv=>by cases hv) hnl2 (hn1 hq2 hz1) s rfl
   have h0:aappB0 C s e z n news (.slice none 0 0)=some (u,t'):=by
    simp only [aappB0]
    rw [if_neg (by omega)]
    exact g1
   obtain ⟨ι',w',u',r1,r2,r3⟩:=aappB0_ok hC hr (ty:=ty) h0 hs ht hz hsrc hnv hnl hk
   refine ⟨ι',w',u',r1,(mEq.refl _).tr ⟨by show t'.n=s'.n;rw [g3,g5],fun j=> ?_,fun j o o' h1 h2=> ?_⟩ r2,r3⟩
   ·rw [g2,g4]
    split<;>simp
   ·rw [g2] at h1
    rw [g4] at h2
    split at h1
    ·rename_i hj
     rw [if_pos hj] at h2
     cases h1
     cases h2
     exact g7.symm
    ·rename_i hj
     rw [if_neg hj,h1] at h2
     cases h2
     exact .refl _
  ·exact aappB0_ok hC hr h hs ht hz hsrc hnv hnl hk
 ·rename_i k o sp len c
  split at h
  ·rename_i e' buf z' a b hkk
   split at h
   ·rename_i hq
    obtain ⟨rfl,rfl,rfl,rfl,hb,rfl,hn0,hl0,hk8⟩:=hq
    obtain ⟨hz0,hch⟩:=Rep.chunks (m:=s.mem) hr hkk
    have hfl:=flatC_len hch
    have hbl:buf.toList.length=len:=by simpa using hb
    rw [hbl] at hfl
    have he:=mEq_set (m:=s.mem) hkk (oEq_chunks hz0 hch)
    split at h
    ·rename_i v s1 hg
     split at h
     ·rename_i s2 hput
      cases h
      let sx:AS:=⟨s.h.put 100000000 k (some (.cells (flatC buf.toList).toArray e' (0,0))),s.n⟩
      have hsx: ∀j,sx.mem.get j=if j=k then some (.cells (flatC buf.toList).toArray e' (0,0)) else s.mem.get j:=fun j=>T.get_put _ _ _ _ _ hk8
      have hxe:sx.mem=s.mem.set k (.cells (flatC buf.toList).toArray e' (0,0)):=by
       show (⟨_,_⟩:Mem)=⟨_,_⟩
       congr 1
       funext j
       exact hsx j
      have hkn:k≠s.n:=fun e=>by
       have:=hr.new s.n (Nat.le_refl _)
       obtain ⟨b',_,e2,_⟩:=hr.obj k _ hkk
       rw [e,this] at e2
       cases e2
      have hzb:1<z'∨z'=1:=by omega
      have hone:news.all (·.oneCell')=true:=by
       rcases hzb with h1 |h1
       ·exact hn1 hn0 h1
       ·subst h1
        refine List.all_eq_true.2 fun u hu=> ?_
        obtain ⟨i,hi,rfl⟩:=List.mem_iff_getElem.1 hu
        have hi':i<news'.length:=by rw [←hnv.1];exact hi
        have:=(hnv.2 i _ _ (List.getElem?_eq_getElem hi) (List.getElem?_eq_getElem hi')).one
        rw [←this]
        exact hsrc.one _ (List.getElem_mem hi')
      obtain ⟨t',g1,g2,g3,g4,g5,g6,g7⟩:=agrowC_ok hg hz0 hch hnl2 hone sx rfl
      have hputx:aput t' k none=some ⟨t'.h.put 100000000 k none,t'.n⟩:=by unfold aput;rw [if_pos hk8]
      have h0:aappB0 C sx e' z' n news (.slice (some ⟨k,0,some 0⟩) len len)=some (u,⟨t'.h.put 100000000 k none,t'.n⟩):=by
       have hget:sx.h.get k=some (.cells (flatC buf.toList).toArray e' (0,0)):=by have:=hsx k;rw [if_pos rfl] at this;exact this
       have haf:afirst sx z' len (.slice (some ⟨k,0,some 0⟩) len len)=some (flatC buf.toList):=by
        unfold afirst
        rw [if_neg (by omega)]
        simp only [hget]
        have e1:List.take (len*z') (List.drop 0 (flatC buf.toList).toArray.toList)=flatC buf.toList:=by
         rw [List.drop_zero]
         exact List.take_of_length_le (by rw [hfl];exact Nat.le_refl _)
        rw [e1]
        rw [if_pos ⟨Nat.le_refl _,by simp [hfl],flatC_one hch⟩]
       simp only [aappB0]
       rw [if_neg (by simp),hget]
       simp only
       rw [if_neg (by omega),haf]
       simp only
       rw [if_pos (by simp [hfl]),g1]
       simp only [hputx]
      obtain ⟨ι',w',u',r1,r2,r3⟩:=aappB0_ok hC (s:=sx) (hxe▸he.rep hr) (ty:=ty) h0 hs ht hz hsrc hnv hnl hk
      refine ⟨ι',w',u',r1,mEq.tr (m:=sx.mem) (hxe▸he.symm) ⟨by show t'.n=s'.n;rw [g3,aput_n hput,g5],fun j=> ?_,fun j o o' h1 h2=> ?_⟩ r2,r3⟩
      ·rw [aput_get hputx,aput_get hput,g2,g4,hsx]
       by_cases hj:j=k
       ·simp [hj]
       ·simp only [hj,if_false]
        split<;>simp
      ·rw [aput_get hputx] at h1
       rw [aput_get hput] at h2
       split at h1
       ·cases h1
       ·rename_i hj
        rw [if_neg hj] at h2
        rw [g2,hsx,if_neg hj] at h1
        rw [g4] at h2
        split at h1
        ·rename_i hj2
         rw [if_pos hj2] at h2
         cases h1
         cases h2
         exact g7.symm
        ·rename_i hj2
         rw [if_neg hj2,h1] at h2
         cases h2
         exact .refl _
     ·cases h
    ·cases h
   ·cases h
  ·exact aappB0_ok hC hr h hs ht hz hsrc hnv hnl hk
 ·exact aappB0_ok hC hr h hs ht hz hsrc hnv hnl hk
theorem afirst_one {s:AS} {z n:Nat} {x:Value} {l:List Value} (h:afirst s z n x=some l) (hn:0<n):l.all (·.oneCell')=true:=by
 unfold afirst at h
 rw [if_neg (by omega)] at h
 split at h
 ·split at h
  ·split at h
   ·rename_i hq
    cases h
    exact hq.2.2
   ·cases h
  ·cases h
 ·rename_i b
  split at h
  ·cases h
   refine List.all_eq_true.2 fun v hv=> ?_
   obtain ⟨_,_,rfl⟩:=List.mem_map.1 (List.mem_of_mem_take hv)
   rfl
  ·cases h
 ·cases h
set_option maxHeartbeats 1000000 in
theorem aappT_ok {C:Cfg} {P:Program} (hC:C.ok P) {ι:Emb} {s s':AS} {w:World} (hr:Rep P C.G ι s.mem w) {t tx ty e:TypeId} {z n k o:Nat} {sv' xv' u:Value} {news news':List Value} (h:aappT C s e n news k o=some (u,s'))
  (hs:VR ι (.slice (some ⟨k,o,some 3⟩) 0 0) sv') (ht:P.underlying t=some (.slice e)) (hz:C.size e=some z) (hsrc:Src P z tx xv' n news' w) (hnv:VRl ι news news') (hnl:news'.length=n*z):
  ∃ι' w' u',(Builtin.append_ #[t,tx] ty #[sv',xv']).run P w= .ok u' w'∧Tr P C.G ι s.mem w ι' s'.mem w'∧VR ι' u u':=by
 obtain ⟨b0,a,hb0,ha,rfl⟩: ∃b a,ι.b k=some b∧(0<ι.x k→a=(⟨b,o,none⟩:Addr))∧sv'= .slice (some a) 0 (ι.x k):=by
  cases hs with
  |slT _ a hb ha=>exact ⟨_,a,hb,ha,rfl⟩
 clear hs
 unfold aappT at h
 split at h
 ·rename_i cs e' fr hkk
  obtain ⟨b,cur,fz,hb,hw,hfz,hsz,hrow⟩:=Rep.row (m:=s.mem) hr hkk
  split at h
  ·rename_i hq
   obtain ⟨rfl,rfl,hoM,hn0⟩:=hq
   split at h
   ·rename_i i0 z0 hi0 hz0
    have hi1:=hC.1 e' i0 hi0
    have hzero:i0.zero=some z0:=by
     unfold azero at hz0
     rw [hi0] at hz0
     simp only at hz0
     split at hz0
     ·split at hz0
      ·cases hz0;assumption
      ·cases hz0
     ·cases hz0
    have hzi:i0.size=z:=by
     unfold Cfg.size at hz
     rw [hi0] at hz
     cases hz
     rfl
    subst hzi
    have hce:=Cfg.cellsOf hC hz
    rw [hce] at hsz
    split at h
    ·rename_i hbd
     split at h
     ·rename_i q s1 hnew
      obtain ⟨rfl,hn1,hg1⟩:=anew_ok hnew
      split at h
      ·rename_i s2 hput
       cases h
       have hkn:k≠s.n:=fun e=>by
        have:=hr.new s.n (Nat.le_refl _)
        rw [←e,hb] at this
        cases this
       have hl2:=hnv.1
       ·have hbb:b=b0:=Option.some.inj (hb.symm.trans hb0)
        subst hbb
        by_cases hfit:n≤ι.x k
        ·have hxn:n*i0.size≤ι.x k*i0.size:=Nat.mul_le_mul_right _ hfit
         have ea:=ha (by omega)
         subst ea
         have hrun:=append_room hC (ty:=ty) (len:=0) ht hz hsrc hw hfz (o:=cs.size) (c:=ι.x k) (by omega) (by rw [hnl];omega)
         have hget: ∀j,s'.mem.get j=if j=s.n then some (.pending news.toArray e') else if j=k then none else s.mem.get j:=fun j=>by
          rw [aput_get hput,hg1]
          by_cases e1:j=k
          ·subst e1;simp [hkn]
          ·by_cases e2:j=s.n
           ·subst e2;simp [Ne.symm hkn]
           ·simp [e1,e2]
         have hl:ι.le (ι.add s.n b (cs.size+ι.x k*flM)):=Emb.le_add (hr.new _ (Nat.le_refl _))
         rw [Nat.zero_add] at hrun
         refine ⟨ι.add s.n b (cs.size+ι.x k*flM),_,_,hrun,Tr.turn (q:=s.n) hr (by show s.h.get k≠none;rw [hkk];exact fun e=>by cases e) hb (Nat.le_refl _) hget (by show s.n<s'.n;rw [aput_n hput];omega) rfl rfl rfl (by simp [World.setRow]) (setRow_heap w b cur _ e' fz hw) (fun j hj=>setRow_other w b _ j hj) ?_,?_⟩
         ·have hsz2: (cur.toList.take (cs.size+0*i0.size)++news'++cur.toList.drop (cs.size+0*i0.size+news'.length)).length=cur.size:=by
           simp only [List.length_append,List.length_take,List.length_drop,Array.length_toList]
           omega
          refine ⟨_,_,rfl,⟨fun i hi=>hfz i (by rw [List.size_toArray,hsz2] at hi;exact hi),(hr.fru hkk hb hw).imp id fun q=>⟨rfl,q⟩⟩,?_,fun i h1 h2=> ?_⟩
          ·simp only [List.size_toArray,fo_mk hoM]
           rw [hsz2]
           omega
          ·simp only [List.size_toArray] at h1 h2
           simp only [List.getElem_toArray,fo_mk hoM]
           refine (hnv.mono hl).2 i _ _ (List.getElem?_eq_getElem h1) ?_
           rw [←List.getElem?_eq_getElem,List.append_assoc,List.getElem?_append_right (by simp;omega),List.getElem?_append_left (by simp;omega)]
           congr 1
           simp
           omega
         ·have:=VR.flS (ι:=ι.add s.n b (cs.size+ι.x k*flM)) n (Emb.add_b ι s.n b _) (by rw [Emb.add_x,fc_mk hoM];exact hfit)
          rw [Emb.add_x,fo_mk hoM,fc_mk hoM] at this
          exact this
        ·have hlt:ι.x k<0+n:=by omega
         have hol: (Builtin.firstCells i0.size 0 (.slice (some a) 0 (ι.x k))).run P w.drew= .ok ([] :List Value).toArray w.drew:=by simp [Builtin.firstCells,loadCells,loadCellsFrom]
         have hnc:=nextcap_le hlt
         have hfit2:Builtin.nextslicecap (0+n) (ι.x k)*i0.bytes≤281474976710656:=Nat.le_trans (Nat.mul_le_mul (Nat.le_trans hnc (show 2* (0+n)+192≤2097344 by omega)) hbd.2.1) (by omega)
         have hrun:=run_append_grow_src w t tx ty e' i0 z0 ht hi1 hzero (some a) 0 (ι.x k) [] hol xv' n news' hsrc hlt (by omega) hfit2
         have hcap:=grownCap_ge w (0+n) (ι.x k) e'
         generalize grownCap w (0+n) (ι.x k) e'=cap at*
         have hl:ι.le (ι.add s.n w.drew.heap.size (0+cap*flM)):=Emb.le_add (hr.new _ (Nat.le_refl _))
         rw [Nat.zero_add] at hrun hcap
         have htr:=(Tr.drew hr).trans (Tr.new (x:=0+cap*flM) (o':= .cells (([] ++news').toArray++Builtin.zeroCells z0.cells (cap-n)) e' (0,0)) hr.drew (Nat.le_refl _) hg1 (by show s.n<s1.n;omega)
          ⟨_,_,rfl,⟨fun i _=>by simp, .inl rfl⟩,by rw [fo_mk (by decide)];simp;omega,fun i h1 h2=>by
           have h1':i<news.length:=by simpa using h1
           have h3:i<news'.length:=by omega
           have e0:fo (0+cap*flM)=0:=fo_mk (by decide) cap
           have e1: ∀m (hm:m< (([] ++news').toArray++Builtin.zeroCells z0.cells (cap-n)).size),m=i→((([] ++news').toArray++Builtin.zeroCells z0.cells (cap-n))[m]'hm)=news'[i] :=fun m hm e=>by
            subst e
            rw [Array.getElem_append_left (by simpa using h3)]
            simp
           rw [e1 _ h2 (by omega)]
           simp only [List.getElem_toArray]
           exact (hnv.mono hl).2 i _ _ (List.getElem?_eq_getElem h1') (List.getElem?_eq_getElem h3)⟩)
         refine ⟨ι.add s.n w.drew.heap.size (0+cap*flM),_,_,hrun,htr.less (fun j o hj=> ?_) (aput_n hput),?_⟩
         ·rw [aput_get hput] at hj
          split at hj
          ·cases hj
          ·exact hj
         ·have:=VR.flS (ι:=ι.add s.n w.drew.heap.size (0+cap*flM)) n (Emb.add_b ι s.n _ _) (by rw [Emb.add_x,fc_mk (by decide)];exact hcap)
          rw [Emb.add_x,fo_mk (by decide),fc_mk (by decide)] at this
          exact this
      ·cases h
     ·cases h
    ·cases h
   ·cases h
  ·cases h
 ·cases h
theorem aappend_ok {C:Cfg} {P:Program} (hC:C.ok P) {ι:Emb} {s s':AS} {w:World} (hr:Rep P C.G ι s.mem w) {t tx ty:TypeId} {sv xv sv' xv' u:Value} (h:aappend C s t tx sv xv=some (u,s')) (hs:VR ι sv sv') (hx:VR ι xv xv'):
  ∃ι' w' u',(Builtin.append_ #[t,tx] ty #[sv',xv']).run P w= .ok u' w'∧Tr P C.G ι s.mem w ι' s'.mem w'∧VR ι' u u':=by
 unfold aappend at h
 split at h
 ·rename_i e d n hd hd' hn
  split at h
  ·rename_i hds
   have hk: (∃e',P.underlying tx=some (.slice e'))∨P.underlying tx=some .string:=by
    cases d with
    |slice e'=>exact .inl ⟨e',Cfg.und_ok hC hd'⟩
    |string=>exact .inr (Cfg.und_ok hC hd')
    |_=>cases hds
   split at h
   ·rename_i z hz
    split at h
    ·rename_i news hnews
     obtain ⟨news',hnv,hnl,hn1,hnr⟩:=afirst_ok hr hnews hx
     unfold aappU at h
     split at h
     ·exact aappT_ok hC hr h hs (Cfg.und_ok hC hd) hz ⟨hk,lenV_ok hn hx P,hnr w rfl,hnr w.drew rfl,hnl,hn1⟩ hnv hnl
     ·exact aappB_ok hC hr h hs (Cfg.und_ok hC hd) hz ⟨hk,lenV_ok hn hx P,hnr w rfl,hnr w.drew rfl,hnl,hn1⟩ hnv hnl hk (fun h _=>afirst_one hnews h)
    ·cases h
   ·cases h
  ·cases h
 ·cases h
end
end Go.Proofs.YtdcioacjhpnihaaGreatDoor
namespace Go.Proofs.YtdcioacjhpnihaaGreatDoor
open Go
noncomputable section
section
variable {C:Cfg} {P:Program} (hC:C.ok P) {ι:Emb} {s s':AS} {w:World} (hr:Rep P C.G ι s.mem w)
def acopy (C:Cfg) (s:AS) (t:TypeId) (dv xv:Value):Option (Value × AS):=
 match C.und t,lenV xv with
 |some (.slice e),some n=>match C.size e with
  |some z=>match dv with
   | .slice none 0 0=>some (.int .i64 0,s)
   | .slice (some ⟨k,o,sp⟩) len _=>match afirst s z (Nat.min n len) xv with
    |some l=>if sp=some 1∨sp=some 3 then none else match s.h.get k with
     |some (.cells cs e' _)=>if o+l.length≤cs.size then match aput s k (some (.cells (cs.toList.take o++l++cs.toList.drop (o+l.length)).toArray e' (0,0))) with
       |some s'=>some (.int .i64 (Nat.min n len),s')
       |none=>none else none
     |_=>none
    |none=>none
   |_=>none
  |none=>none
 |_,_=>none
include hC hr in
theorem acopy_ok {t tx ty:TypeId} {dv xv dv' xv' u:Value} (h:acopy C s t dv xv=some (u,s')) (hd:VR ι dv dv') (hx:VR ι xv xv'):
  ∃w',(Builtin.copy_ #[t,tx] ty #[dv',xv']).run P w= .ok u w'∧Tr P C.G ι s.mem w ι s'.mem w'∧flat1 u=true:=by
 unfold acopy at h
 split at h
 ·rename_i e n hu hn
  have hlen:=lenV_ok hn hx P
  split at h
  ·rename_i z hz
   split at h
   ·cases hd
    cases h
    refine ⟨w,?_,Tr.refl hr,rfl⟩
    obtain ⟨l',_,_,_,hl⟩:=afirst_ok (z:=z) (n:=0) (l:= []) hr (x:=xv) (by unfold afirst;rw [if_pos rfl];cases xv<;> (try (rename_i k9 _ _;cases k9)) <;>simp_all [lenV]) hx
    have hl:=hl w rfl
    have hl0: (Builtin.firstCells z 0 xv').run P w= .ok l'.toArray w:=hl
    simp [Builtin.copy_,Cfg.run_und hC hu,hlen,Cfg.run_size hC hz,hl0,goInt]
   ·rename_i k o sp len c
    split at h
    ·rename_i l hl
     split at h
     ·cases h
     rename_i hsp
     split at h
     ·rename_i cs e' fr hk
      split at h
      ·rename_i hin
       split at h
       ·rename_i s2 hput
        cases h
        obtain ⟨l',hv,hlen',h1,hrun⟩:=afirst_ok hr hl hx
        obtain ⟨b,hb,c2,rfl⟩: ∃b,ι.b k=some b∧ ∃c2,dv'= .slice (some ⟨b,o,none⟩) len c2:=by
         cases hd with
         |slX _ _ hb=>exact ⟨_,hb,_,rfl⟩
         |slG _ _ hb hm9=>exact ⟨_,hb,_,rfl⟩
         |slE=>exact absurd (.inl rfl) hsp
         |slT=>exact absurd (.inr rfl) hsp
        obtain ⟨b2,cur,fz,hb2,hw,hfz,hsz,hrow⟩:=Rep.row (m:=s.mem) hr hk
        rw [hb] at hb2
        cases hb2
        have hll:=hv.1
        have hst:=storeCells_fr (P:=P) b o e' fz l' 0 cur w hw hfz (by omega) h1
        simp only [Nat.add_zero] at hst
        refine ⟨_,?_,setRow_tr hr hk hb hin hv (aput_get hput) (aput_n hput) hw,rfl⟩
        have hrun0:=hrun w rfl
        simp [Builtin.copy_,Cfg.run_und hC hu,hlen,Cfg.run_size hC hz,goInt,hrun0,hst]
       ·cases h
      ·cases h
     ·cases h
    ·cases h
   ·cases h
  ·cases h
 ·cases h
def bnd (x:Option Value) (d:Nat):Option Nat:=match x with
 |none=>some d
 |some (.int _ i)=>if 0≤i then some i.toNat else none
 |_=>none
def len8 {α:Type}:List α→Nat:=List.rec (motive:=fun _=>Nat) 0 (fun _ _ ih=>Nat.succ ih)
def drop8 {α:Type} (l:List α):Nat→List α:=List.rec (motive:=fun _=>Nat→List α) (fun _=> []) (fun y r ih n=>Nat.rec (motive:=fun _=>List α) (y::r) (fun m _=>ih m) n) l
def take8 {α:Type} (l:List α):Nat→List α:=List.rec (motive:=fun _=>Nat→List α) (fun _=> []) (fun y _ ih n=>Nat.rec (motive:=fun _=>List α) [] (fun m _=>y::ih m) n) l
theorem len8_eq {α:Type}: ∀ (l:List α),len8 l=l.length
 | [] =>rfl
 |_::l=>congrArg Nat.succ (len8_eq l)
theorem drop8_eq {α:Type}: ∀ (l:List α) (n:Nat),drop8 l n=l.drop n
 | [],n=>by cases n<;>rfl
 |_::_,0=>rfl
 |_::l,n+1=>drop8_eq l n
theorem take8_eq {α:Type}: ∀ (l:List α) (n:Nat),take8 l n=l.take n
 | [],n=>by cases n<;>rfl
 |_::_,0=>rfl
 |x::l,n+1=>congrArg (x:: ·) (take8_eq l n)
theorem extract8 (b:ByteArray) (l h:Nat):b.extract l h=⟨⟨take8 (drop8 b.data.toList l) (h-l)⟩⟩:=by
 rw [drop8_eq,take8_eq]
 apply ByteArray.ext
 apply Array.ext'
 simp
def aslice (C:Cfg) (t:TypeId) (x:Value) (lo hi mx:Option Value):Option Value:=
 match mx,C.und t,x with
 |none,some (.array n e), .pointer (some ⟨k,o,none⟩)=>match C.size e,bnd lo 0,bnd hi n with
  |some z,some l,some h=>if l≤h∧h≤n then some (.slice (some ⟨k,if n=l then o else o+l*z,none⟩) (h-l) (n-l)) else none
  |_,_,_=>none
 |none,some (.slice e), .slice none 0 0=>match C.size e,bnd lo 0,bnd hi 0 with
  |some _,some 0,some 0=>some (.slice none 0 0)
  |_,_,_=>none
 |none,some (.slice e), .slice (some ⟨k,o,none⟩) len c=>match C.size e,bnd lo 0,bnd hi len with
  |some z,some l,some h=>if l≤h∧h≤c then some (.slice (some ⟨k,if c=l then o else o+l*z,none⟩) (h-l) (c-l)) else none
  |_,_,_=>none
 |none,some (.slice e), .slice (some ⟨k,o,some 0⟩) len c=>match C.size e,bnd lo 0,bnd hi len with
  |some z,some l,some h=>if l≤h∧h≤c then (if l=0 then some (.slice (some ⟨k,o,some 0⟩) h c) else if l<c then some (.slice (some ⟨k,o+l*z,some 0⟩) (h-l) (c-l)) else some (.slice (some ⟨k,o+l*z,some 3⟩) 0 0)) else none
  |_,_,_=>none
 |none,some (.slice e), .slice (some ⟨_,_,some 3⟩) 0 0=>match C.size e,bnd lo 0,bnd hi 0 with
  |some _,some 0,some 0=>some (.slice (some ⟨0,0,some 1⟩) 0 0)
  |_,_,_=>none
 |none,some (.slice e), .complex .f64 _ n=>match C.size e,bnd lo 0,bnd hi n with
  |some _,some l,some h=>if l=n∧h=n then some (.slice (some ⟨0,0,some 1⟩) 0 0) else none
  |_,_,_=>none
 |none,some (.slice e), .slice (some ⟨0,0,some 1⟩) 0 0=>match C.size e,bnd lo 0,bnd hi 0 with
  |some _,some 0,some 0=>some (.slice (some ⟨0,0,some 1⟩) 0 0)
  |_,_,_=>none
 |some mv,some (.slice e), .slice (some ⟨k,o,sp⟩) len c=>if sp=some 1∨sp=some 3 then none else match hi with
  |some hv=>match C.size e,bnd lo 0,bnd (some hv) 0,bnd (some mv) 0 with
   |some z,some l,some h,some m=>if l≤h∧h≤m∧m≤c then some (.slice (some ⟨k,if m=l then o else o+l*z,none⟩) (h-l) (m-l)) else none
   |_,_,_,_=>none
  |none=>none
 |none,some .string, .string b=>match bnd lo 0,bnd hi (len8 b.data.toList) with
  |some l,some h=>if l≤h∧h≤len8 b.data.toList then some (.string ⟨⟨take8 (drop8 b.data.toList l) (h-l)⟩⟩) else none
  |_,_=>none
 |_,_,_=>none
def optVR (ι:Emb):Option Value→Option Value→Prop
 |none,none=>True
 |some a,some b=>VR ι a b
 |_,_=>False
theorem bounds_ok {lo hi lo' hi':Option Value} (hl:optVR ι lo lo') (hh:optVR ι hi hi') {len cap l h:Nat} {b:Bool} (e1:bnd lo 0=some l) (e2:bnd hi len=some h) (h1:l≤h) (h2:h≤cap) (w:World):
  (Instr.sliceBounds b len cap lo' hi' none).run P w= .ok (l,h,cap) w:=by
 have hb: ∀ (x:Value) (y:Nat) (code:BoundsCode) (n:Nat),bnd (some x) 0=some n→n≤y→ ∀x',VR ι x x'→(Instr.sliceBound x' y code).run P w= .ok n w:=fun x y code n e hn x' hx=>by
  unfold bnd at e
  split at e
  ·rename_i heq;cases heq
  ·rename_i kd i heq
   cases heq
   split at e
   ·rename_i hi0
    cases e
    cases hx
    have:0≤i∧i≤ (y:Int):=by omega
    simp [Instr.sliceBound,asIntOf,this]
   ·cases e
  ·cases e
 have hb0: ∀ (x:Value) (d n:Nat),bnd (some x) d=some n→bnd (some x) 0=some n:=fun x d n e=>by
  cases x<;>exact e
 cases lo with
 |none=>
  cases lo' with
  |some _=>exact hl.elim
  |none=>
   simp only [bnd,Option.some.injEq] at e1
   subst e1
   cases hi with
   |none=>
    cases hi' with
    |some _=>exact hh.elim
    |none=>
     simp only [bnd,Option.some.injEq] at e2
     subst e2
     simp [Instr.sliceBounds]
   |some x=>
    cases hi' with
    |none=>exact hh.elim
    |some x'=>
     have:=hb x cap (if b then .sliceAcap else .sliceAlen) h (hb0 _ _ _ e2) h2 x' hh
     simp [Instr.sliceBounds,this]
 |some y=>
  cases lo' with
  |none=>exact hl.elim
  |some y'=>
   have hy:=hb y h .sliceB l e1 h1 y' hl
   cases hi with
   |none=>
    cases hi' with
    |some _=>exact hh.elim
    |none=>
     simp only [bnd,Option.some.injEq] at e2
     subst e2
     simp [Instr.sliceBounds,hy]
   |some x=>
    cases hi' with
    |none=>exact hh.elim
    |some x'=>
     have:=hb x cap (if b then .sliceAcap else .sliceAlen) h (hb0 _ _ _ e2) h2 x' hh
     simp [Instr.sliceBounds,this,hy]
theorem bounds3_ok {lo lo':Option Value} {hv hv' mv mv':Value} (hl:optVR ι lo lo') (hh:VR ι hv hv') (hm:VR ι mv mv') {len cap l h m:Nat} {b:Bool} (e1:bnd lo 0=some l) (e2:bnd (some hv) 0=some h) (e3:bnd (some mv) 0=some m) (h1:l≤h) (h2:h≤m) (h3:m≤cap) (w:World):
  (Instr.sliceBounds b len cap lo' (some hv') (some mv')).run P w= .ok (l,h,m) w:=by
 have hb: ∀ (x:Value) (y:Nat) (code:BoundsCode) (n:Nat),bnd (some x) 0=some n→n≤y→ ∀x',VR ι x x'→(Instr.sliceBound x' y code).run P w= .ok n w:=fun x y code n e hn x' hx=>by
  unfold bnd at e
  split at e
  ·rename_i heq;cases heq
  ·rename_i kd i heq
   cases heq
   split at e
   ·rename_i hi0
    cases e
    cases hx
    have:0≤i∧i≤ (y:Int):=by omega
    simp [Instr.sliceBound,asIntOf,this]
   ·cases e
  ·cases e
 have a1:=hb mv cap (if b then .slice3Acap else .slice3Alen) m e3 h3 mv' hm
 have a2:=hb hv m .slice3B h e2 h2 hv' hh
 cases lo with
 |none=>
  cases lo' with
  |some _=>exact hl.elim
  |none=>
   simp only [bnd,Option.some.injEq] at e1
   subst e1
   simp [Instr.sliceBounds,a1,a2]
 |some y=>
  cases lo' with
  |none=>exact hl.elim
  |some y'=>
   have a3:=hb y h .slice3C l e1 h1 y' hl
   simp [Instr.sliceBounds,a1,a2,a3]
include hC in
theorem aslice_ok {t:TypeId} {x x' v:Value} {lo hi mx lo' hi' mx':Option Value} (h:aslice C t x lo hi mx=some v) (hx:VR ι x x') (hl:optVR ι lo lo') (hh:optVR ι hi hi') (hm:optVR ι mx mx') (w:World):
  ∃v',(Instr.sliceAt t x' lo' hi' mx').run P w= .ok v' w∧VR ι v v':=by
 unfold aslice at h
 split at h
 ·rename_i n e k o hd
  have hm':mx'=none:=by cases mx' with |none=>rfl |some _=>exact hm.elim
  subst hm'
  split at h
  ·rename_i z l hh' hz e1 e2
   split at h
   ·rename_i hq
    cases h
    cases hx with
    |ptr hb=>
     rename_i b
     refine ⟨.slice (some ⟨b,if n=l then o else o+l*z,none⟩) (hh'-l) (n-l),?_, .slX _ _ hb⟩
     have:=bounds_ok (P:=P) (b:=false) hl hh e1 e2 hq.1 hq.2 w
     simp [Instr.sliceAt,Cfg.run_und hC hd,Instr.sureAddr,this,Cfg.run_size hC hz,add_none]
     split<;>rfl
   ·cases h
  ·cases h
 ·rename_i e hd
  have hm':mx'=none:=by cases mx' with |none=>rfl |some _=>exact hm.elim
  subst hm'
  split at h
  ·rename_i z hz e1 e2
   cases h
   cases hx
   refine ⟨.slice none 0 0,?_, .nilSlice⟩
   have:=bounds_ok (P:=P) (b:=true) hl hh e1 e2 (Nat.le_refl _) (Nat.le_refl 0) w
   simp [Instr.sliceAt,Instr.slice,Cfg.run_und hC hd,this,Cfg.run_size hC hz]
  ·cases h
 ·rename_i e k o len c hd
  have hm':mx'=none:=by cases mx' with |none=>rfl |some _=>exact hm.elim
  subst hm'
  split at h
  ·rename_i z l hh' hz e1 e2
   split at h
   ·rename_i hq
    cases h
    cases hx with
    |slX _ _ hb=>
     rename_i b
     refine ⟨.slice (some ⟨b,if c=l then o else o+l*z,none⟩) (hh'-l) (c-l),?_, .slX _ _ hb⟩
     have:=bounds_ok (P:=P) (b:=true) hl hh e1 e2 hq.1 hq.2 w
     simp [Instr.sliceAt,Instr.slice,Cfg.run_und hC hd,this,Cfg.run_size hC hz,add_none]
     split<;>rfl
   ·cases h
  ·cases h
 ·rename_i e k o len c hd
  have hm':mx'=none:=by cases mx' with |none=>rfl |some _=>exact hm.elim
  subst hm'
  split at h
  ·rename_i z l hh' hz e1 e2
   split at h
   ·rename_i hq
    cases hx with
    |slG _ _ hb hm9=>
     rename_i b
     have:=bounds_ok (P:=P) (b:=true) hl hh e1 e2 hq.1 (show hh'≤c+ι.x k by omega) w
     split at h
     ·rename_i hl0
      cases h
      subst hl0
      refine ⟨.slice (some ⟨b,o,none⟩) hh' (c+ι.x k),?_, .slG _ _ hb hm9⟩
      simp [Instr.sliceAt,Instr.slice,Cfg.run_und hC hd,this,Cfg.run_size hC hz,add_none]
     ·split at h
      ·rename_i hl0 hlt
       cases h
       have hne:c+ι.x k≠l:=by omega
       refine ⟨.slice (some ⟨b,o+l*z,none⟩) (hh'-l) (c-l+ι.x k),?_, .slG _ _ hb (by omega)⟩
       rw [show c-l+ι.x k=c+ι.x k-l by omega]
       simp [Instr.sliceAt,Instr.slice,Cfg.run_und hC hd,this,Cfg.run_size hC hz,add_none,hne]
      ·rename_i hl0 hlt
       cases h
       have hll:hh'-l=0:=by omega
       have hlc:l=c:=by omega
       subst hlc
       have hT:=VR.slT (ι:=ι) (k:=k) (o+l*z) (if l+ι.x k=l then ⟨b,o,none⟩ else ⟨b,o+l*z,none⟩) hb (fun hx=>by rw [if_neg (by omega)])
       refine ⟨_,?_,hT⟩
       simp [Instr.sliceAt,Instr.slice,Cfg.run_und hC hd,this,Cfg.run_size hC hz,add_none,hll]
       split<;>rfl
   ·cases h
  ·cases h
 ·rename_i e k o hd
  have hm':mx'=none:=by cases mx' with |none=>rfl |some _=>exact hm.elim
  subst hm'
  split at h
  ·rename_i z hz e1 e2
   cases h
   cases hx with
   |slT _ a hb ha=>
    have:=bounds_ok (P:=P) (b:=true) hl hh e1 e2 (Nat.le_refl _) (Nat.zero_le (ι.x k)) w
    refine ⟨.slice (some (if ι.x k=0 then a else a.add 0)) 0 (ι.x k),?_, .slE _ _⟩
    simp [Instr.sliceAt,Instr.slice,Cfg.run_und hC hd,this,Cfg.run_size hC hz]
    split<;>simp [Addr.add]
  ·cases h
 ·rename_i e q n hd
  have hm':mx'=none:=by cases mx' with |none=>rfl |some _=>exact hm.elim
  subst hm'
  split at h
  ·rename_i z l hh' hz e1 e2
   split at h
   ·rename_i hq
    cases h
    obtain ⟨rfl,rfl⟩:=hq
    cases hx with
    |flS _ hb hn=>
     rename_i b
     have:=bounds_ok (P:=P) (b:=true) hl hh e1 e2 (Nat.le_refl _) hn w
     refine ⟨.slice (some (if fc (ι.x q)=hh' then ⟨b,fo (ι.x q),none⟩ else ⟨b,fo (ι.x q)+hh'*z,none⟩)) 0 (fc (ι.x q) -hh'),?_, .slE _ _⟩
     simp [Instr.sliceAt,Instr.slice,Cfg.run_und hC hd,this,Cfg.run_size hC hz,add_none]
     split<;>rfl
   ·cases h
  ·cases h
 ·rename_i e hd
  have hm':mx'=none:=by cases mx' with |none=>rfl |some _=>exact hm.elim
  subst hm'
  split at h
  ·rename_i z hz e1 e2
   cases h
   cases hx with
   |slE a c=>
    have:=bounds_ok (P:=P) (b:=true) hl hh e1 e2 (Nat.le_refl _) (Nat.zero_le c) w
    refine ⟨.slice (some (if c=0 then a else a.add 0)) 0 c,?_, .slE _ _⟩
    simp [Instr.sliceAt,Instr.slice,Cfg.run_und hC hd,this,Cfg.run_size hC hz]
    split<;>simp [Addr.add]
  ·cases h
 ·rename_i mv e k o sp len c hd
  obtain ⟨mv',rfl,hm'⟩: ∃m,mx'=some m∧VR ι mv m:=by cases mx' with |none=>exact hm.elim |some m=>exact ⟨m,rfl,hm⟩
  split at h
  ·cases h
  rename_i hsp
  split at h
  ·rename_i hv
   obtain ⟨hv',rfl,hh'⟩: ∃m,hi'=some m∧VR ι hv m:=by cases hi' with |none=>exact hh.elim |some m=>exact ⟨m,rfl,hh⟩
   split at h
   ·rename_i z l hb m hz e1 e2 e3
    split at h
    ·rename_i hq
     cases h
     obtain ⟨q1,q2,q3⟩:=hq
     obtain ⟨b,hbb,c2,hc2,rfl⟩: ∃b,ι.b k=some b∧ ∃c2,c≤c2∧x'= .slice (some ⟨b,o,none⟩) len c2:=by
      cases hx with
      |slX _ _ hb=>exact ⟨_,hb,_,Nat.le_refl _,rfl⟩
      |slG _ _ hb hm9=>exact ⟨_,hb,_,Nat.le_add_right _ _,rfl⟩
      |slE=>exact absurd (.inl rfl) hsp
      |slT=>exact absurd (.inr rfl) hsp
     have:=bounds3_ok (P:=P) (b:=true) (len:=len) (cap:=c2) hl hh' hm' e1 e2 e3 q1 q2 (by omega) w
     refine ⟨.slice (some ⟨b,if m=l then o else o+l*z,none⟩) (hb-l) (m-l),?_, .slX _ _ hbb⟩
     simp [Instr.sliceAt,Instr.slice,Cfg.run_und hC hd,this,Cfg.run_size hC hz,add_none]
     split<;>rfl
    ·cases h
   ·cases h
  ·cases h
 ·rename_i b hd
  have hm':mx'=none:=by cases mx' with |none=>rfl |some _=>exact hm.elim
  subst hm'
  cases hx
  have hsz:len8 b.data.toList=b.size:=by rw [len8_eq];rfl
  split at h
  ·rename_i l hh' e1 e2
   split at h
   ·rename_i hq
    cases h
    rw [hsz] at e2 hq
    have:=bounds_ok (P:=P) (b:=false) hl hh e1 e2 hq.1 hq.2 w
    refine ⟨.string (b.extract l hh'),?_,?_⟩
    ·simp [Instr.sliceAt,Instr.slice,Cfg.run_und hC hd,this]
    ·rw [extract8]
     exact .string _
   ·cases h
  ·cases h
 ·cases h
end
end
end Go.Proofs.YtdcioacjhpnihaaGreatDoor
namespace Go.Proofs.YtdcioacjhpnihaaGreatDoor
open Go
noncomputable section
section
variable {C:Cfg} {P:Program} (hC:C.ok P) {ι:Emb} {s s':AS} {w:World} (hr:Rep P C.G ι s.mem w)
def partsR (ι:Emb):List (Nat × Value)→List (Nat × Value)→Prop
 | [], [] =>True
 |a::l,b::m=>a.1=b.1∧VR ι a.2 b.2∧partsR ι l m
 |_,_=>False
theorem foldset (v v':List Value) (ι:Emb) (off:Nat): ∀ (k:Nat) (c c':Array Value),VRl ι v v'→VRs ι c c'→
  VRs ι ((v.zipIdx k).foldl (fun cs (x:Value × Nat)=>cs.setIfInBounds (off+x.2) x.1) c) ((v'.zipIdx k).foldl (fun cs (x:Value × Nat)=>cs.setIfInBounds (off+x.2) x.1) c'):=by
 induction v generalizing v' with
 |nil=>
  intro k c c' hv hc
  have:v'= [] :=List.eq_nil_of_length_eq_zero hv.1.symm
  subst this
  exact hc
 |cons a l ih=>
  intro k c c' hv hc
  cases v' with
  |nil=>exact absurd hv.1 (by simp)
  |cons a' l'=>
   simp only [List.zipIdx_cons,List.foldl_cons]
   refine ih l' (k+1) _ _ ⟨by have:=hv.1;simpa using this,fun i x y h1 h2=>hv.2 (i+1) x y (by simpa using h1) (by simpa using h2)⟩ ⟨by simp [hc.1],fun i h1 h2=> ?_⟩
   simp only [Array.size_setIfInBounds] at h1 h2
   rw [Array.getElem_setIfInBounds h1,Array.getElem_setIfInBounds h2]
   split
   ·exact hv.2 0 a a' rfl rfl
   ·exact hc.2 i h1 h2
theorem fill_ok (ι:Emb) (place:Nat→Option (Nat × Nat)): ∀ (l l':List (Nat × Value)) (c c':Array Value),partsR ι l l'→VRs ι c c'→ ∀r,Instr.fill place c l=some r→ ∃r',Instr.fill place c' l'=some r'∧VRs ι r r'
 | [], [],c,c',_,hc,r,h=>by cases h;exact ⟨c',rfl,hc⟩
 | (i,v)::l,(j,v')::l',c,c',hp,hc,r,h=>by
  obtain ⟨hij,hv,hp⟩:=hp
  simp only at hij
  subst hij
  have hsz:v'.cells.size=v.cells.size:=by have:=hv.cells.1;simpa using this.symm
  simp only [Instr.fill] at h ⊢
  split at h
  ·cases h
  ·rename_i off sz hpl
   simp only [hsz, ←hc.1]
   split at h
   ·cases h
   ·rename_i hcond
    rw [if_neg hcond]
    refine fill_ok ι place l l' _ _ hp ?_ r h
    have:=foldset v.cells.toList v'.cells.toList ι off 0 c c' hv.cells hc
    rw [←Array.foldl_toList, ←Array.foldl_toList,Array.toList_zipIdx,Array.toList_zipIdx]
    exact this
 | [],_::_,_,_,h,_,_,_=>h.elim
 |_::_, [],_,_,h,_,_,_=>h.elim
def abuild (C:Cfg) (P:Program) (t:TypeId) (parts:List (Nat × Value)):Option Value:=
 match azero C t,C.und t with
 |some z,some (.struct fs)=>match semP P (fs.mapM fun f=>do pure (f.offset, ←sizeOf f.type)) with
  |some pl=>match Instr.fill (pl[·]?) z.cells parts with
   |some c=>some (.agg c)
   |none=>none
  |none=>none
 |some z,some (.array _ e)=>match C.size e with
  |some sz=>match Instr.fill (fun i=>some (i*sz,sz)) z.cells parts with
   |some c=>some (.agg c)
   |none=>none
  |none=>none
 |_,_=>none
include hC in
theorem abuild_ok {t:TypeId} {parts:List (Nat × Value)} {parts':Array (Nat × Value)} {v:Value} (h:abuild C P t parts=some v) (hp:partsR ι parts parts'.toList) (w:World): ∃v',(Instr.build t parts').run P w= .ok v' w∧VR ι v v':=by
 unfold abuild at h
 have zs: ∀z:Value,flat z=true→VRs ι z.cells z.cells:=fun z hz=>by have:=(VR.flat ι hz).cells.s;simpa using this
 split at h
 ·rename_i z fs hz hd
  obtain ⟨hz1,hz2⟩:=azero_ok hC hz w
  split at h
  ·rename_i pl hpl
   split at h
   ·rename_i c hc
    cases h
    obtain ⟨c',hc',hv⟩:=fill_ok ι _ _ _ _ _ hp (zs z hz2) c hc
    refine ⟨.agg c',?_, .agg hv.1 hv.2⟩
    have:=semP_run (P:=P) _ hpl w
    unfold Instr.build
    rw [Sem.run_bind,hz1]
    simp only [Result.andThen]
    rw [Sem.run_bind,Cfg.run_und hC hd]
    simp only [Result.andThen]
    rw [Sem.run_bind,this]
    simp [Result.andThen,hc']
   ·cases h
  ·cases h
 ·rename_i z n e hz hd
  obtain ⟨hz1,hz2⟩:=azero_ok hC hz w
  split at h
  ·rename_i sz hsz
   split at h
   ·rename_i c hc
    cases h
    obtain ⟨c',hc',hv⟩:=fill_ok ι _ _ _ _ _ hp (zs z hz2) c hc
    refine ⟨.agg c',?_, .agg hv.1 hv.2⟩
    simp [Instr.build,hz1,Cfg.run_und hC hd,Cfg.run_size hC hsz,hc']
   ·cases h
  ·cases h
 ·cases h
theorem VRs.refl1 (ι:Emb) {c:Array Value} (h:c.all flat1=true):VRs ι c c:=⟨rfl,fun _ hi _=>VR.flat1 ι (Array.all_eq_true'.1 h _ (Array.getElem_mem hi))⟩
def zrow (zv:Value) (n:Nat):Array Value:=(Array.range n).map (zv.cells[· %zv.cells.size]!)
def abuildS (C:Cfg) (s:AS) (t:TypeId) (len:Nat) (parts:List (Nat × Value)):Option (Value × AS):=
 match C.und t with
 |some (.slice e)=>match C.size e,azero C e with
  |some z,some zv=>if len*z≤1048576∧(zrow zv (len*z)).all flat1=true then match Instr.fill (fun i=>some (i*z,z)) (zrow zv (len*z)) parts with
    |some c=>match arow s e c with
     |some (k,s')=>some (.slice (some ⟨k,0,none⟩) len len,s')
     |none=>none
    |none=>none else none
  |_,_=>none
 |_=>none
include hC hr in
theorem abuildS_ok {t:TypeId} {len:Nat} {parts:List (Nat × Value)} {parts':Array (Nat × Value)} {v:Value} (h:abuildS C s t len parts=some (v,s')) (hp:partsR ι parts parts'.toList):
  ∃ι' w' v',(Instr.buildSlice t len parts').run P w= .ok v' w'∧Tr P C.G ι s.mem w ι' s'.mem w'∧VR ι' v v':=by
 unfold abuildS at h
 split at h
 ·rename_i e hd
  split at h
  ·rename_i z zv hz hzv
   obtain ⟨hz1,_⟩:=azero_ok hC hzv w
   split at h
   ·rename_i hq
    obtain ⟨h1,h3⟩:=hq
    split at h
    ·rename_i c hc
     split at h
     ·rename_i k s2 hk
      cases h
      obtain ⟨c',hc',hv⟩:=fill_ok ι _ _ _ _ _ hp (VRs.refl1 ι h3) c hc
      obtain ⟨ι',b,r1,r2,r3,r4⟩:=arow_ok hr hk hv
      refine ⟨ι',_, .slice (some ⟨b,0,none⟩) len len,?_,r2, .slX _ _ r3⟩
      unfold zrow at hc'
      have h16: ¬ (len*z>2^24):=by omega
      by_cases h0:len*z=0
      ·have hc2:Instr.fill (fun i=>some (i*z,z)) ((Array.range (len*z)).map ((#[] :Array Value)[· % (#[] :Array Value).size]!)) parts'.toList=some c':=by
        rw [←hc']
        congr 1
        rw [h0]
        simp
       unfold Instr.buildSlice
       simp only [Sem.run_bind,Cfg.run_und hC hd,Result.andThen,Cfg.run_size hC hz,h16,if_false,Sem.run_pure]
       rw [if_pos h0]
       simp only [Sem.run_bind,Sem.run_pure,Result.andThen,hc2,r1]
      ·unfold Instr.buildSlice
       simp only [Sem.run_bind,Cfg.run_und hC hd,Result.andThen,Cfg.run_size hC hz,h16,h0,if_false,hz1,Sem.run_pure,hc',r1]
     ·cases h
    ·cases h
   ·cases h
  ·cases h
 ·cases h
def amake0 (C:Cfg) (s:AS) (t:TypeId) (lv cv:Value):Option (Value × AS):=
 match C.und t,lv,cv with
 |some (.slice e), .int _ l, .int _ c=>match C.tt.get e,azero C e with
  |some i,some zv=>if 0≤l∧l≤c∧c≤65536∧i.bytes≤65536∧0<i.size∧(zrow zv (c.toNat*i.size)).all flat1=true then match arow s e (zrow zv (c.toNat*i.size)) with
    |some (k,s')=>some (.slice (some ⟨k,0,none⟩) l.toNat c.toNat,s')
    |none=>none else none
  |_,_=>none
 |_,_,_=>none
def amake (C:Cfg) (s:AS) (t:TypeId) (lv cv:Value):Option (Value × AS):=
 match C.und t,lv,cv with
 |some (.slice e), .int _ l, .int _ c=>match C.tt.get e,azero C e with
  |some i,some zv=>if bigZ≤i.size then (if 0≤l∧l≤c∧c≤65536∧i.bytes≤65536∧0<i.size∧zv.cells.size=i.size∧zv.cells.toList.all flat1=true then match anew s (.chan e (Array.replicate c.toNat zv) false i.size 0 false) with
    |some (k,s')=>some (.slice (some ⟨k,0,none⟩) l.toNat c.toNat,s')
    |none=>none else none) else amake0 C s t lv cv
  |_,_=>none
 |_,_,_=>none
theorem flat1_one {v:Value} (h:flat1 v=true):v.oneCell'=true:=by cases v<;>first |rfl |cases h
theorem zrow_chunks {zv:Value} {z:Nat} (hz:zv.cells.size=z) (h0:0<z) (n:Nat): (zrow zv (n*z)).toList=flatC (List.replicate n zv):=by
 refine List.ext_getElem? fun i=> ?_
 have hlen: (flatC (List.replicate n zv)).length=n*z:=by
  simp [flatC,hz]
 by_cases hi:i<n*z
 ·have e1: (zrow zv (n*z)).toList[i]? =some (zv.cells[i%z]'(by rw [hz];exact Nat.mod_lt _ h0)):=by
   have:i%z<zv.cells.size:=by rw [hz];exact Nat.mod_lt _ h0
   simp only [zrow,Array.getElem?_toList,Array.getElem?_map,hz]
   rw [Array.getElem?_eq_getElem (by simpa using hi)]
   simp only [Option.map_some,Array.getElem_range]
   rw [getElem!_pos zv.cells (i%z) this]
  rw [e1]
  clear e1
  induction n generalizing i with
  |zero=>simp at hi
  |succ n ih=>
   rw [List.replicate_succ]
   show _=(zv.cells.toList++flatC (List.replicate n zv))[i]?
   by_cases h1:i<z
   ·rw [List.getElem?_append_left (by simp [hz,h1])]
    have h2:i%z=i:=Nat.mod_eq_of_lt h1
    simp [h2,hz,h1]
   ·rw [List.getElem?_append_right (by simp [hz];omega)]
    have h3:i-z<n*z:=by rw [Nat.succ_mul] at hi;omega
    have:=ih (i-z) (by simp [flatC,hz]) h3
    simp only [Array.length_toList,hz]
    rw [←this]
    congr 1
    have h4: (i-z)%z=i%z:=by
     have:i=(i-z)+z:=by omega
     conv=>rhs;rw [this]
     rw [Nat.add_mod_right]
    simp only [h4]
 ·rw [List.getElem?_eq_none (by simp [zrow];omega),List.getElem?_eq_none (by rw [hlen];omega)]
theorem wrap64 {n:Int} (h0:0≤n) (h1:n≤65536):IntKind.i64.wrap n=n:=by
 unfold IntKind.wrap
 simp [IntKind.bits,IntKind.signed]
 omega
include hC hr in
theorem amake0_ok {t:TypeId} {lv cv lv' cv' v:Value} (h:amake0 C s t lv cv=some (v,s')) (hl:VR ι lv lv') (hc:VR ι cv cv'):
  ∃ι' w' v',(Instr.makeSlice t lv' cv').run P w= .ok v' w'∧Tr P C.G ι s.mem w ι' s'.mem w'∧VR ι' v v':=by
 unfold amake0 at h
 split at h
 ·rename_i e kl l kc c hd
  cases hl
  cases hc
  split at h
  ·rename_i i zv hi hzv
   obtain ⟨hz1,_⟩:=azero_ok hC hzv w
   split at h
   ·rename_i hq
    obtain ⟨h1,h2,h3,h4,h5,h6⟩:=hq
    split at h
    ·rename_i k s2 hk
     cases h
     obtain ⟨ι',b,r1,r2,r3,r4⟩:=arow_ok hr hk (VRs.refl1 ι h6)
     have hi':=hC.1 e i hi
     have w1:=wrap64 (n:=l) h1 (by omega)
     have w2:=wrap64 (n:=c) (by omega) h3
     by_cases hc0:c.toNat*i.size=0
     ·have hcz:c=0:=by
       rcases Nat.mul_eq_zero.1 hc0 with h |h
       ·omega
       ·omega
      have hlz:l=0:=by omega
      subst hcz hlz
      refine ⟨ι',_, .slice (some ⟨b,0,none⟩) 0 0,?_,r2, .slX _ _ r3⟩
      have r1': (newRow e #[]).run P w= .ok ⟨b,0,none⟩ (w.alloc (.cells #[] e)):=by
       have:zrow zv (Int.toNat 0*i.size)= #[] :=by simp [zrow]
       rw [this] at r1
       exact r1
      have:zrow zv (Int.toNat 0*i.size)= #[] :=by simp [zrow]
      rw [this]
      simp [Instr.makeSlice,Cfg.run_und hC hd,asInt,asIntOf,typeInfo,hi',w1,sizeOf,Array.range_zero',r1']
     ·refine ⟨ι',_, .slice (some ⟨b,0,none⟩) l.toNat c.toNat,?_,r2, .slX _ _ r3⟩
      have hb: (i.bytes:Int)*c≤2^48:=by
       have: (i.bytes:Int)*c≤65536*65536:=Int.mul_le_mul (by omega) h3 (by omega) (by omega)
       omega
      have hb2: ¬ ((2:Int)^48< (i.bytes:Int)*c):=by omega
      have hc1: ¬ (c<0):=by omega
      have hl1: ¬ (l<0):=by omega
      have hlc: ¬ (c<l):=by omega
      have hb3: ¬ (281474976710656< (i.bytes:Int)*c):=by omega
      unfold zrow at r1
      simp [Instr.makeSlice,Cfg.run_und hC hd,asInt,asIntOf,typeInfo,hi',w1,w2,sizeOf,hc1,hl1,hlc,hb3,hc0,hz1,r1]
      rfl
    ·cases h
   ·cases h
  ·cases h
 ·cases h
include hC hr in
theorem amake_ok {t:TypeId} {lv cv lv' cv' v:Value} (h:amake C s t lv cv=some (v,s')) (hl:VR ι lv lv') (hc:VR ι cv cv'):
  ∃ι' w' v',(Instr.makeSlice t lv' cv').run P w= .ok v' w'∧Tr P C.G ι s.mem w ι' s'.mem w'∧VR ι' v v':=by
 have h0:=h
 unfold amake at h
 split at h
 ·rename_i e kl l kc c hd
  split at h
  ·rename_i i zv hi hzv
   split at h
   ·split at h
    ·rename_i hq
     obtain ⟨h1,h2,h3,h4,h5,h6,h7⟩:=hq
     split at h
     ·rename_i k s2 hk
      cases h
      obtain ⟨rfl,hn,hg⟩:=anew_ok hk
      have hlt:s.n<100000000:=by
       unfold anew at hk
       split at hk
       ·assumption
       ·cases hk
      have hzr:=zrow_chunks h6 h5 c.toNat
      have hall: ((zrow zv (c.toNat*i.size)).all flat1)=true:=by
       rw [←Array.all_toList,hzr]
       refine List.all_eq_true.2 fun u hu=> ?_
       obtain ⟨x,hx,hu⟩:=List.mem_flatMap.1 hu
       rw [List.eq_of_mem_replicate hx] at hu
       exact List.all_eq_true.1 h7 u hu
      have hp:amake0 C s t (.int kl l) (.int kc c)=some (.slice (some ⟨s.n,0,none⟩) l.toNat c.toNat,⟨s.h.put 100000000 s.n (some (.cells (zrow zv (c.toNat*i.size)) e (0,0))),s.n+1⟩):=by
       simp only [amake0,hd,hi,hzv]
       rw [if_pos ⟨h1,h2,h3,h4,h5,hall⟩]
       simp only [arow,anew,hlt,if_true]
      obtain ⟨ι',w',v',r1,r2,r3⟩:=amake0_ok hC hr hp hl hc
      have hch: ∀v∈ (Array.replicate c.toNat zv).toList,chOk i.size v:=fun v hv=>by
       rw [Array.toList_replicate] at hv
       rw [List.eq_of_mem_replicate hv]
       exact ⟨h6,List.all_eq_true.2 fun u hu=>flat1_one (List.all_eq_true.1 h7 u hu)⟩
      have heq:=oEq_chunks (e:=e) (a:=0) (t:=false) h5 hch
      have he2: (flatC (Array.replicate c.toNat zv).toList).toArray=zrow zv (c.toNat*i.size):=by
       rw [Array.toList_replicate, ←hzr,Array.toArray_toList]
      rw [he2] at heq
      have hgx: ∀j,(⟨s.h.put 100000000 s.n (some (.cells (zrow zv (c.toNat*i.size)) e (0,0))),s.n+1⟩:AS).mem.get j=if j=s.n then some (.cells (zrow zv (c.toNat*i.size)) e (0,0)) else s.mem.get j:=fun j=>T.get_put _ _ _ _ _ hlt
      refine ⟨ι',w',v',r1,(mEq.refl _).tr ⟨hn.symm,fun j=> ?_,fun j o o' a1 a2=> ?_⟩ r2,r3⟩
      ·rw [hgx,hg]
       split<;>simp
      ·rw [hgx] at a1
       rw [hg] at a2
       split at a1
       ·rename_i hj
        rw [if_pos hj] at a2
        cases a1
        cases a2
        exact heq.symm
       ·rename_i hj
        rw [if_neg hj,a1] at a2
        cases a2
        exact .refl _
     ·cases h
    ·cases h
   ·exact amake0_ok hC hr h hl hc
  ·cases h
 ·cases h
end
end
end Go.Proofs.YtdcioacjhpnihaaGreatDoor
namespace Go.Proofs.YtdcioacjhpnihaaGreatDoor
open Go
noncomputable section
section
variable {C:Cfg} {P:Program} (hC:C.ok P) {ι:Emb} {s s':AS} {w:World} (hr:Rep P C.G ι s.mem w)
def intsOf:List Value→Option (List Int)
 | [] =>some []
 | .int .u8 n::l=>match intsOf l with
  |some r=>some (n::r)
  |none=>none
 |_=>none
theorem intsOf_ok: ∀ (l:List Value) (ns:List Int),intsOf l=some ns→l=ns.map (Value.int .u8)
 | [],ns,h=>by cases h;rfl
 |v::l,ns,h=>by
  unfold intsOf at h
  split at h
  ·rename_i heq;cases heq
  ·rename_i n l' heq
   cases heq
   split at h
   ·rename_i r hr
    cases h
    rw [intsOf_ok _ r hr]
    rfl
   ·cases h
  ·cases h
def pushAll (ns:List Int):ByteArray:=ns.foldl (fun r n=>r.push (UInt8.ofNat n.toNat)) ByteArray.empty
def abytes (C:Cfg) (s:AS) (src dst:TypeId) (x:Value):Option Value:=
 match C.und src,C.und dst with
 |some (.slice e),some .string=>match C.und e with
  |some (.int .u8)=>match x with
   | .slice none 0 0=>some (.string .empty)
   | .slice a len c=>match afirst s 1 len (.slice a len c) with
    |some l=>match intsOf l with
     |some ns=>some (.string (pushAll ns))
     |none=>none
    |none=>none
   |_=>none
  |_=>none
 |_,_=>none
include hC hr in
theorem abytes_ok {src dst:TypeId} {x x' v:Value} (h:abytes C s src dst x=some v) (hx:VR ι x x'): (convert src dst x').run P w= .ok v w∧flat1 v=true:=by
 unfold abytes at h
 split at h
 ·rename_i e hs hd
  split at h
  ·rename_i he
   split at h
   ·cases hx
    cases h
    refine ⟨?_,rfl⟩
    simp [convert,Cfg.run_und hC hs,Cfg.run_und hC hd,Cfg.run_und hC he,Conv.bytesToString]
   ·rename_i a len c hne
    split at h
    ·rename_i l hl
     split at h
     ·rename_i ns hns
      cases h
      refine ⟨?_,rfl⟩
      obtain ⟨l',hv,hlen,h1,hrun⟩:=afirst_ok hr hl hx
      have hl2:=intsOf_ok _ _ hns
      have hl':l'=ns.map (Value.int .u8):=by
       refine List.ext_getElem? fun i=> ?_
       by_cases hi:i<l'.length
       ·have hi2:i<l.length:=by rw [hv.1];exact hi
        have:=hv.2 i _ _ (List.getElem?_eq_getElem hi2) (List.getElem?_eq_getElem hi)
        have hf:flat1 l[i] =true:=by subst hl2;simp [flat1]
        have:=this.flat_eq hf
        rw [List.getElem?_eq_getElem hi,this, ←hl2,List.getElem?_eq_getElem hi2]
       ·rw [List.getElem?_eq_none (by omega), ←hl2,List.getElem?_eq_none (by rw [hv.1];omega)]
      have hrun:=hrun w rfl
      have key: ∀ (a':Addr) (c':Nat),x'= .slice (some a') len c'→(convert src dst x').run P w= .ok (.string (pushAll ns)) w:=fun a' c' e=>by
       subst e
       simp only [Builtin.firstCells,Nat.mul_one] at hrun
       rw [hl'] at hrun
       have:=run_bytesToString w a' len c' ns hrun
       simp [convert,Cfg.run_und hC hs,Cfg.run_und hC hd,Cfg.run_und hC he,this,pushAll]
      cases hx with
      |nilSlice=>exact (hne rfl rfl rfl).elim
      |slX _ _ _=>exact key _ _ rfl
      |slG _ _ _ _=>exact key _ _ rfl
      |slE _ _=>exact key _ _ rfl
      |slT _ _ _ _=>exact key _ _ rfl
     ·cases h
    ·cases h
   ·cases h
  ·cases h
 ·cases h
def astring (C:Cfg) (s:AS) (src dst:TypeId) (x:Value):Option (Value × AS):=
 match C.und src,C.und dst,x with
 |some .string,some (.slice e), .string b=>match C.und e,C.size e with
  |some (.int .u8),some 1=>if b.size≤1048576 then match arow s e (byteCells b).toArray with
   |some (k,s')=>some (.slice (some ⟨k,0,some 0⟩) b.size b.size,s')
   |none=>none else none
  |_,_=>none
 |_,_,_=>none
theorem freeze_new (w:World) (c:Array Value) (e:TypeId) (n:Nat): (w.alloc (.cells c e)).freeze ⟨w.heap.size,n,none⟩ 1=w.alloc (.cells c e (n,n+1)):=by
 have: ((w.heap.push (.cells c e)).modify w.heap.size fun
   | .cells c elem (lo,hi)=> .cells c elem (if lo==hi then (n,n+1) else (min lo n,max hi (n+1)))
   |o=>o)=w.heap.push (.cells c e (n,n+1)):=by
  refine Array.ext (by simp) fun i h1 h2=> ?_
  simp only [Array.getElem_modify,Array.getElem_push]
  by_cases hi:i=w.heap.size
  ·subst hi;simp
  ·simp only [Array.size_push] at h2
   have h3:i<w.heap.size:=by omega
   rw [if_neg (by omega)]
   simp [h3]
 unfold World.freeze World.alloc
 simp only [Nat.one_ne_zero,if_false]
 exact congrArg (fun h:Array Obj=>({w with heap:=h}:World)) this
include hC hr in
theorem astring_ok {src dst:TypeId} {x x' v:Value} (h:astring C s src dst x=some (v,s')) (hx:VR ι x x'):
  ∃ι' w' v',(convert src dst x').run P w= .ok v' w'∧Tr P C.G ι s.mem w ι' s'.mem w'∧VR ι' v v':=by
 unfold astring at h
 split at h
 ·rename_i e b hs hd
  cases hx
  split at h
  ·rename_i he hz
   split at h
   rotate_left
   ·cases h
   rename_i hbs
   split at h
   ·rename_i k s2 hk
    cases h
    unfold arow at hk
    obtain ⟨rfl,hn1,hg⟩:=anew_ok hk
    obtain ⟨cap,hcap⟩: ∃cap,cap=grownCap w b.size 0 e:=⟨_,rfl⟩
    have hge:b.size≤cap:=hcap▸grownCap_ge ..
    have hl:ι.le (ι.add s.n w.drew.heap.size (cap-b.size)):=Emb.le_add (hr.new _ (Nat.le_refl _))
    have hsz: ((byteCells b).toArray++Array.replicate (cap-b.size) (Value.int .u8 0)).size=cap:=by simp [byteCells_length];omega
    refine ⟨ι.add s.n w.drew.heap.size (cap-b.size),w.drew.alloc (.cells ((byteCells b).toArray++Array.replicate (cap-b.size) (.int .u8 0)) e (cap,cap+1)), .slice (some ⟨w.heap.size,0,none⟩) b.size cap,?_,
     (Tr.drew hr).trans (Tr.new hr.drew (Nat.le_refl _) hg (by show s.n<s'.n;omega) ⟨rfl,⟨fun i hi=>by rw [hsz] at hi;simp;omega, .inr ⟨rfl,Cfg.und_ok hC he⟩⟩,?_,fun j a b'=> ?_⟩),?_⟩
    ·have hq: (Question.appendCap b.size 0 e).cut (w.tape w.drawn (.appendCap b.size 0 e))=cap:=hcap.symm
     have hbc: (b.data.map fun b=>Value.int .u8 b.toNat)=(byteCells b).toArray:=by unfold byteCells;apply Array.ext';simp
     have hfr:=freeze_new w.drew ((byteCells b).toArray++Array.replicate (cap-b.size) (.int .u8 0)) e cap
     simp only [convert,Sem.run_bind,Cfg.run_und hC hs,Cfg.run_und hC hd,Cfg.run_und hC he,Result.andThen,Conv.stringToBytes,run_choose,Question.forced,Bool.false_eq_true,if_false,hq,newRow,run_newObj,Sem.run_pure,markStringish,run_shape]
     have hsh: (World.shape? {w with heap:=w.heap.push (.cells ((b.data.map fun b=>Value.int .u8 b.toNat)++Array.replicate (cap-b.size) (.int .u8 0)) e),drawn:=w.drawn+1} w.heap.size)=some (e,cap):=by
      rw [hbc]
      simp only [World.shape?,Array.getElem?_push_size]
      rw [hsz]
     simp only [hsh,run_freeze]
     rw [hbc]
     exact congrArg (Result.ok _) hfr
    ·rw [hsz,Cfg.cellsOf hC hz]
     simp [byteCells_length]
     omega
    ·simp only [List.size_toArray] at a
     rw [Array.getElem_append_left (by simpa using a)]
     exact VR.flat1 _ (byteCells_flat b _ (by simp only [List.getElem_toArray];exact List.getElem_mem a))
    ·have:=VR.slG (ι:=ι.add s.n w.drew.heap.size (cap-b.size)) (o:=0) b.size b.size (Emb.add_b ι s.n w.drew.heap.size (cap-b.size)) (by
      have:=grownCap_le_maxLen w b.size 0 e (by unfold maxLen;omega)
      rw [Emb.add_x]
      omega)
     rw [Emb.add_x] at this
     rw [show b.size+ (cap-b.size)=cap by omega] at this
     exact this
   ·cases h
  ·cases h
 ·cases h
end
end
end Go.Proofs.YtdcioacjhpnihaaGreatDoor
namespace Go.Proofs.YtdcioacjhpnihaaGreatDoor
open Go
noncomputable section
def fnN:Fn→Bool
 | .method _=>false
 |_=>true
def anil (C:Cfg) (t:TypeId) (x y:Value):Option Bool:=
 match C.und t,x,y with
 |some (.pointer _), .pointer a, .pointer none=>some a.isNone
 |some (.pointer _), .pointer none, .pointer b=>some b.isNone
 |some (.pointer e), .pointer (some ⟨k,o,none⟩), .pointer (some ⟨k',o',none⟩)=>match C.size e with
  |some z=>if k=k'∧z≠0 then some (o==o') else none
  |none=>none
 |some (.slice _), .slice a _ _, .slice none _ _=>some a.isNone
 |some (.slice _), .slice none _ _, .slice b _ _=>some b.isNone
 |some (.map _ _), .map a, .map none=>some a.isNone
 |some (.map _ _), .map none, .map b=>some b.isNone
 |some (.func _ _ _), .func f _ _, .nilFunc=>if fnN f then some false else none
 |some (.func _ _ _), .nilFunc, .func f _ _=>if fnN f then some false else none
 |some (.func _ _ _), .nilFunc, .nilFunc=>some true
 |some (.interface _), .iface _ _, .nilIface=>some false
 |some (.interface _), .nilIface, .iface _ _=>some false
 |_,_,_=>none
set_option maxHeartbeats 2000000 in
theorem anil_ok {C:Cfg} {P:Program} (hC:C.ok P) {ι:Emb} {t:TypeId} {x y x' y':Value} {b:Bool} (h:anil C t x y=some b) (hx:VR ι x x') (hy:VR ι y y') (w:World) (dp:Nat): (Op.equalIn (dp+1) t x' y').run P w= .ok b w:=by
 unfold anil at h
 split at h
 ·rename_i hd
  cases hx<;>cases hy<;>cases h<;>simp [Op.equalIn,Cfg.run_und hC hd]
 ·rename_i hd
  cases hx;cases hy<;>cases h<;>simp [Op.equalIn,Cfg.run_und hC hd]
 ·rename_i e k o k' o' hd
  split at h
  ·rename_i z hz
   split at h
   ·rename_i hq
    obtain ⟨rfl,hz0⟩:=hq
    cases h
    cases hx with
    |ptr hb=>
     cases hy with
     |ptr hb2=>
      rw [hb] at hb2
      cases hb2
      simp [Op.equalIn,Cfg.run_und hC hd,Cfg.run_size hC hz,hz0,sameAddr]
      rw [Bool.eq_iff_iff]
      simp
   ·cases h
  ·cases h
 ·rename_i hd
  cases hy
  cases hx<;>cases h<;>simp [Op.equalIn,Cfg.run_und hC hd]
 ·rename_i hd
  cases hx
  cases hy<;>cases h<;>simp [Op.equalIn,Cfg.run_und hC hd]
 ·rename_i hd
  cases hy
  cases hx<;>cases h<;>simp [Op.equalIn,Cfg.run_und hC hd]
 ·rename_i hd
  cases hx
  cases hy<;>cases h<;>simp [Op.equalIn,Cfg.run_und hC hd]
 ·rename_i f _ _ hd
  cases hy
  cases hx<;>first | (cases h;done)| (split at h<;>cases h;simp [Op.equalIn,Cfg.run_und hC hd])
 ·rename_i f _ _ hd
  cases hx
  cases hy<;>first | (cases h;done)| (split at h<;>cases h;simp [Op.equalIn,Cfg.run_und hC hd])
 ·rename_i hd
  cases hx
  cases hy
  cases h
  simp [Op.equalIn,Cfg.run_und hC hd]
 ·rename_i hd
  cases hy
  cases hx
  cases h
  simp [Op.equalIn,Cfg.run_und hC hd]
 ·rename_i hd
  cases hx
  cases hy
  cases h
  simp [Op.equalIn,Cfg.run_und hC hd]
 ·cases h
def apartV (C:Cfg) (t:TypeId) (cs:Array Value) (off:Nat):Option Value:=
 match C.und t,C.size t with
 |some d,some n=>if aggD d then (if off+n≤cs.size then some (.agg (cs.toList.drop off |>.take n).toArray) else none) else cs[off]?
 |_,_=>none
theorem apartV_ok {C:Cfg} {P:Program} (hC:C.ok P) {ι:Emb} {t:TypeId} {cs cs':Array Value} {off:Nat} {v:Value} (h:apartV C t cs off=some v) (hc:VRs ι cs cs') (w:World): ∃v',(part t cs' off).run P w= .ok v' w∧VR ι v v':=by
 unfold apartV at h
 split at h
 ·rename_i d n hd hn
  split at h
  ·rename_i hag
   split at h
   ·rename_i hle
    cases h
    have hv:=(((VRl.of_s hc).drop off).take n).s
    refine ⟨.agg (cs'.extract off (off+n)),by simp [part,Cfg.run_agg hC hd,hag,Cfg.run_size hC hn],?_⟩
    have e:cs'.extract off (off+n)=((cs'.toList.drop off).take n).toArray:=by
     apply Array.ext'
     simp [List.extract_eq_take_drop]
    rw [e]
    exact .agg hv.1 hv.2
   ·cases h
  ·rename_i hag
   obtain ⟨ho,rfl⟩:=Array.getElem?_eq_some_iff.1 h
   have ho':off<cs'.size:=hc.1▸ho
   refine ⟨cs'[off],by simp [part,Cfg.run_agg hC hd,hag,Array.getElem?_eq_getElem ho'],hc.2 off ho ho'⟩
 ·cases h
def afield (C:Cfg) (t:TypeId) (x:Value) (f:Nat):Option Value:=
 match C.und t,x with
 |some (.struct fs), .agg cs=>match fs[f]? with
  |some fd=>apartV C fd.type cs fd.offset
  |none=>none
 |_,_=>none
theorem afield_ok {C:Cfg} {P:Program} (hC:C.ok P) {ι:Emb} {t:TypeId} {x x' v:Value} {f:Nat} (h:afield C t x f=some v) (hx:VR ι x x') (w:World): ∃v',(Instr.field t x' f).run P w= .ok v' w∧VR ι v v':=by
 unfold afield at h
 split at h
 ·rename_i fs cs hd
  cases hx with
  |agg h1 h2=>
   split at h
   ·rename_i fd hf
    obtain ⟨v',hv,hr⟩:=apartV_ok hC h ⟨h1,h2⟩ w
    exact ⟨v',by simp [Instr.field,Cfg.run_und hC hd,hf,asAgg,hv],hr⟩
   ·cases h
 ·cases h
def aindexV (C:Cfg) (t:TypeId) (x ix:Value):Option Value:=
 match C.und t,x,ix with
 |some (.array n e), .agg cs, .int _ i=>match C.size e with
  |some z=>if 0≤i∧i<n then apartV C e cs (i.toNat*z) else none
  |none=>none
 |_,_,_=>none
theorem aindexV_ok {C:Cfg} {P:Program} (hC:C.ok P) {ι:Emb} {t:TypeId} {x x' ix ix' v:Value} (h:aindexV C t x ix=some v) (hx:VR ι x x') (hi:VR ι ix ix') (w:World): ∃v',(Instr.index t x' ix').run P w= .ok v' w∧VR ι v v':=by
 unfold aindexV at h
 split at h
 ·rename_i n e cs kd i hd
  cases hi
  cases hx with
  |agg h1 h2=>
   split at h
   ·rename_i z hz
    split at h
    ·rename_i hlt
     obtain ⟨v',hv,hr⟩:=apartV_ok hC h ⟨h1,h2⟩ w
     exact ⟨v',by simp [Instr.index,asIntOf,Cfg.run_und hC hd,hlt,Cfg.run_size hC hz,hv],hr⟩
    ·cases h
   ·cases h
 ·cases h
def anilCheck:Value→Bool
 | .pointer (some _)| .func (.func _) _ _ | .func (.yield _) _ _ | .iface _ _=>true
 |_=>false
def alen (C:Cfg) (t:TypeId) (x:Value):Option Value:=
 match C.und t,x with
 |some (.slice _), .slice _ n _=>some (goInt n)
 |some (.slice _), .complex .f64 _ n=>some (goInt n)
 |some .string, .string s=>some (goInt s.size)
 |some (.map _ _), .map none=>some (goInt 0)
 |some (.array n _),_=>some (goInt n)
 |_,_=>none
theorem alen_ok {C:Cfg} {P:Program} (hC:C.ok P) {ι:Emb} {t ty:TypeId} {x x' v:Value} (h:alen C t x=some v) (hx:VR ι x x') (w:World): (Builtin.len_ #[t] ty #[x']).run P w= .ok v w∧flat1 v=true:=by
 unfold alen at h
 split at h
 ·rename_i hd
  cases h
  refine ⟨?_,rfl⟩
  cases hx<;>simp [Builtin.len_,Cfg.run_und hC hd]
 ·rename_i hd
  cases h
  cases hx
  exact ⟨by simp [Builtin.len_,Cfg.run_und hC hd],rfl⟩
 ·rename_i hd
  cases h
  cases hx
  exact ⟨by simp [Builtin.len_,Cfg.run_und hC hd],rfl⟩
 ·rename_i hd
  cases h
  cases hx
  exact ⟨by simp [Builtin.len_,Cfg.run_und hC hd],rfl⟩
 ·rename_i hd
  cases h
  exact ⟨by cases hx<;>simp [Builtin.len_,Cfg.run_und hC hd],rfl⟩
 ·cases h
def aarrP (C:Cfg) (t:TypeId) (x:Value):Option Value:=
 match C.und t,x with
 |some (.array n _), .slice (some ⟨k,o,sp⟩) len _=>if n≤len∧0<n∧sp≠some 1 then some (.pointer (some ⟨k,o,none⟩)) else none
 |_,_=>none
theorem aarrP_ok {C:Cfg} {P:Program} (hC:C.ok P) {ι:Emb} {t:TypeId} {x x' v:Value} (h:aarrP C t x=some v) (hx:VR ι x x') (w:World): ∃v',(Instr.arrayAt t x').run P w= .ok v' w∧VR ι v v':=by
 unfold aarrP at h
 split at h
 ·rename_i n e k o sp len c hd
  split at h
  ·rename_i hq
   cases h
   have hlt: ¬ (len<n):=by omega
   cases hx with
   |slX _ _ hb=>exact ⟨_,by simp [Instr.arrayAt,Cfg.run_und hC hd,hlt], .ptr hb⟩
   |slG _ _ hb hm9=>exact ⟨_,by simp [Instr.arrayAt,Cfg.run_und hC hd,hlt], .ptr hb⟩
   |slE=>exact absurd rfl hq.2.2
   |slT=>omega
  ·cases h
 ·cases h
end
end Go.Proofs.YtdcioacjhpnihaaGreatDoor
namespace Go.Proofs.YtdcioacjhpnihaaGreatDoor
open Go
noncomputable section
theorem semP_inv {P:Program} {α β:Type} {m:Sem α} {f:α→Sem β} {b:β} (h:semP P (m>>=f)=some b): ∃a,semP P m=some a∧semP P (f a)=some b:=by
 induction m with
 |pure a=>exact ⟨a,rfl,h⟩
 |program k ih=>exact ih P h
 |_=>cases h
def mfind (P:Program) (kt:TypeId) (em:Bool) (k:Value) (es:List MapEntry):Option (Option Nat):=
 if flat k=true∧es.all (fun e=>flat e.key)=true then
  match semP P (Instr.checkKey em 10000 kt k),semP P (Instr.findKey kt k es) with
  |some _,some r=>some (r.map (·.1))
  |_,_=>none
 else none
def FoundAs (es es':List MapEntry) (i:Nat) (r r':Option (Nat × Value)):Prop:=match r with
 |none=>r'=none
 |some (j,v)=>i≤j∧(∃e,es[j-i]? =some e∧v=e.val)∧ ∃e',es'[j-i]? =some e'∧r'=some (j,e'.val)
theorem FoundAs.cons {e e':MapEntry} {es es':List MapEntry} {i:Nat} {r r':Option (Nat × Value)} (h:FoundAs es es' (i+1) r r'):FoundAs (e::es) (e'::es') i r r':=by
 unfold FoundAs at*
 split at h
 ·exact h
 ·rename_i j v
  obtain ⟨h1,⟨x,h2,h3⟩,y,h4,h5⟩:=h
  have hj:j-i=(j- (i+1))+1:=by omega
  exact ⟨by omega,⟨x,by rw [hj];simpa using h2,h3⟩,y,by rw [hj];simpa using h4,h5⟩
theorem findNow_as {d:TypeDesc} {k:Value}: ∀ (es es':List MapEntry) (i:Nat) (o:Option (Option (Nat × Value))),es.map (·.key)=es'.map (·.key)→Instr.findNow d k es i=o→match o with
  |none=>Instr.findNow d k es' i=none
  |some r=> ∃r',Instr.findNow d k es' i=some r'∧FoundAs es es' i r r'
 | [], [],i,o,_,h=>by
  simp only [Instr.findNow] at h
  subst h
  exact ⟨none,rfl,rfl⟩
 |e::es,e'::es',i,o,hk,h=>by
  simp only [List.map_cons,List.cons.injEq] at hk
  have h0:=h
  simp only [Instr.findNow] at h ⊢
  rw [←hk.1]
  split at h
  ·rename_i hs
   subst h
   exact ⟨_,rfl,Nat.le_refl _,⟨e,by simp,rfl⟩,e',by simp,rfl⟩
  ·rename_i hs
   have ih:=findNow_as es es' (i+1) o hk.2 h
   split at ih
   ·exact ih
   ·obtain ⟨r',h1,h2⟩:=ih
    exact ⟨r',h1,h2.cons⟩
  ·rename_i hs
   subst h
   rfl
 | [],_::_,_,_,h,_=>by simp at h
 |_::_, [],_,_,h,_=>by simp at h
theorem findAsking_as {P:Program} {kt:TypeId} {k:Value}: ∀ (es es':List MapEntry) (i:Nat) (r:Option (Nat × Value)),es.map (·.key)=es'.map (·.key)→semP P (Instr.findAsking kt k es i)=some r→ ∃r',(∀w,(Instr.findAsking kt k es' i).run P w= .ok r' w)∧FoundAs es es' i r r'
 | [], [],i,r,_,h=>by
  cases h
  exact ⟨none,fun w=>rfl,rfl⟩
 |e::es,e'::es',i,r,hk,h=>by
  simp only [List.map_cons,List.cons.injEq] at hk
  simp only [Instr.findAsking] at h
  obtain ⟨b,h1,h2⟩:=semP_inv h
  rw [hk.1] at h1
  have hr:=semP_run _ h1
  cases b with
  |true=>
   simp only [if_true] at h2
   cases h2
   exact ⟨_,fun w=>by simp [Instr.findAsking,hr w],Nat.le_refl _,⟨e,by simp,rfl⟩,e',by simp,rfl⟩
  |false=>
   simp only [Bool.false_eq_true,if_false] at h2
   obtain ⟨r',h3,h4⟩:=findAsking_as es es' (i+1) r hk.2 h2
   exact ⟨r',fun w=>by simp [Instr.findAsking,hr w,h3 w],h4.cons⟩
 | [],_::_,_,_,h,_=>by simp at h
 |_::_, [],_,_,h,_=>by simp at h
theorem findKey_as {P:Program} {kt:TypeId} {k:Value} {es es':List MapEntry} {r:Option (Nat × Value)} (hk:es.map (·.key)=es'.map (·.key)) (h:semP P (Instr.findKey kt k es)=some r): ∃r',(∀w,(Instr.findKey kt k es').run P w= .ok r' w)∧FoundAs es es' 0 r r':=by
 unfold Instr.findKey at h
 obtain ⟨d,h1,h2⟩:=semP_inv h
 have hd:=semP_run _ h1
 cases hn:Instr.findNow d k es 0 with
 |none=>
  rw [hn] at h2
  have h3:=findNow_as es es' 0 none hk hn
  simp only at h3
  obtain ⟨r',h4,h5⟩:=findAsking_as es es' 0 r hk h2
  exact ⟨r',fun w=>by simp [Instr.findKey,hd w,h3,h4 w],h5⟩
 |some r0=>
  rw [hn] at h2
  cases h2
  obtain ⟨r',h3,h4⟩:=findNow_as es es' 0 _ hk hn
  exact ⟨r',fun w=>by simp [Instr.findKey,hd w,h3],h4⟩
def esR (ι:Emb) (es es':Array MapEntry):Prop:=es.size=es'.size∧ ∀i (h:i<es.size) (h':i<es'.size),entR ι es[i] es'[i]
theorem esR.keys {ι:Emb} {es es':Array MapEntry} (h:esR ι es es') (hf:es.toList.all (fun e=>flat e.key)=true):es.toList.map (·.key)=es'.toList.map (·.key):=by
 refine List.ext_getElem? fun i=> ?_
 rw [List.getElem?_map,List.getElem?_map]
 by_cases hi:i<es.size
 ·have hi':i<es'.size:=h.1▸hi
  have h1:=(h.2 i hi hi').1
  have h2:=List.all_eq_true.1 hf es[i] (Array.mem_toList_iff.2 (Array.getElem_mem hi))
  have:=h1.flatE h2
  simp [hi,hi',this]
 ·have hi': ¬i<es'.size:=h.1▸hi
  simp [Nat.le_of_not_lt hi,Nat.le_of_not_lt hi']
theorem mfind_ok {P:Program} {ι:Emb} {kt:TypeId} {em:Bool} {k k':Value} {es es':Array MapEntry} {r:Option Nat} (h:mfind P kt em k es.toList=some r) (hk:VR ι k k') (he:esR ι es es'):
  k'=k∧flat k=true∧(∀w,(Instr.checkKey em 10000 kt k).run P w= .ok () w)∧(match r with
   |none=> ∀w,(Instr.findKey kt k es'.toList).run P w= .ok none w
   |some i=> ∃ (h1:i<es.size) (h2:i<es'.size),es'[i].key=es[i].key∧(∀w,(Instr.findKey kt k es'.toList).run P w= .ok (some (i,es'[i].val)) w)):=by
 unfold mfind at h
 split at h
 ·rename_i hq
  split at h
  ·rename_i u r0 h1 h2
   cases h
   refine ⟨hk.flatE hq.1,hq.1,fun w=>semP_run _ h1 w,?_⟩
   obtain ⟨r',h3,h4⟩:=findKey_as (he.keys hq.2) h2
   cases r0 with
   |none=>
    have:r'=none:=h4
    subst this
    exact h3
   |some p=>
    obtain ⟨j,v⟩:=p
    obtain ⟨_,⟨e,h5,_⟩,e',h6,rfl⟩:=h4
    rw [Nat.sub_zero,Array.getElem?_toList] at h5 h6
    obtain ⟨a1,rfl⟩:=Array.getElem?_eq_some_iff.1 h5
    obtain ⟨a2,rfl⟩:=Array.getElem?_eq_some_iff.1 h6
    exact ⟨a1,a2,(he.2 j a1 a2).1.flatE (List.all_eq_true.1 hq.2 _ (Array.mem_toList_iff.2 (Array.getElem_mem a1))),h3⟩
  ·cases h
 ·cases h
theorem keyStays {P:Program} {j k:Value} (h:Instr.sameBits 10000 j k=true) (w:World): (Instr.keyThatStays j k).run P w= .ok k w:=by simp [Instr.keyThatStays,h]
theorem Tr.put {P:Program} {G:Nat} {ι:Emb} {m m':Mem} {w:World} (h:Rep P G ι m w) {k b:Nat} {o o':Obj} (hk:m.get k≠none) (hb:ι.b k=some b) (hm: ∀j,m'.get j=if j=k then some o else m.get j) (hn:m'.n=m.n) (hr:objR P ι (ι.x k) o o'):
  Tr P G ι m w ι m' {w with heap:=w.heap.setIfInBounds b o'}:=by
 have hlt:=h.lt hk hb
 refine Tr.set h hk hb hm hn rfl rfl rfl (by simp) (by simp [hlt]) (fun j hj=> ?_) hr
 simp only [Array.getElem?_setIfInBounds]
 rw [if_neg (Ne.symm hj)]
theorem run_setObjM {P:Program} {w:World} {r:Nat} {es:Array MapEntry} {c:Nat} (o:Obj) (h:w.heap[r]? =some (.map es c)): (setObj r o).run P w= .ok () {w with heap:=w.heap.setIfInBounds r o}:=by simp [setObj,Sem.run,h]
theorem run_getObjM {P:Program} {w:World} {r:Nat} {es:Array MapEntry} {c:Nat} (h:w.heap[r]? =some (.map es c)): (getObj r).run P w= .ok (.map es c) w:=by simp [getObj,Sem.run,h]
end
end Go.Proofs.YtdcioacjhpnihaaGreatDoor
namespace Go.Proofs.YtdcioacjhpnihaaGreatDoor
open Go
noncomputable section
def entsOf (s:AS) (m:Value):Option (Array MapEntry):=match m with
 | .map none=>some #[]
 | .map (some r)=>match s.h.get r with
  |some (.map es _)=>some es
  |_=>none
 |_=>none
def alookup (C:Cfg) (P:Program) (t:TypeId) (ok:Bool) (s:AS) (m k:Value):Option Value:=match C.und t,entsOf s m with
 |some (.map kt et),some es=>match mfind P kt es.isEmpty k es.toList with
  |some (some i)=>match es[i]? with
   |some e=>some (if ok then .tuple #[e.val, .bool true] else e.val)
   |none=>none
  |some none=>match azero C et with
   |some z=>some (if ok then .tuple #[z, .bool false] else z)
   |none=>none
  |none=>none
 |_,_=>none
def aupdate (C:Cfg) (P:Program) (t:TypeId) (s:AS) (m k v:Value):Option AS:=match C.und t,m with
 |some (.map kt _), .map (some r)=>match s.h.get r with
  |some (.map es c)=>match mfind P kt false k es.toList with
   |some (some i)=>match es[i]? with
    |some e=>if Instr.sameBits 10000 e.key k=true then aput s r (some (.map (es.modify i fun e=> {e with key:=k,val:=v}) c)) else none
    |none=>none
   |some none=>aput s r (some (.map (es.push {key:=k,val:=v,born:=c}) (c+1)))
   |none=>none
  |_=>none
 |_,_=>none
def aentry (C:Cfg) (P:Program) (t:TypeId) (s:AS) (m k:Value):Option (Value × AS):=match C.und t,m with
 |some (.map kt et), .map (some r)=>match s.h.get r with
  |some (.map es c)=>match mfind P kt false k es.toList with
   |some (some i)=>match es[i]? with
    |some e=>if Instr.sameBits 10000 e.key k=true then (match aput s r (some (.map (es.modify i fun e=> {e with key:=k}) c)) with
     |some s'=>some (.tuple #[e.val,goInt e.born],s')
     |none=>none) else none
    |none=>none
   |some none=>match azero C et with
    |some z=>match aput s r (some (.map (es.push {key:=k,val:=z,born:=c}) (c+1))) with
     |some s'=>some (.tuple #[z,goInt c],s')
     |none=>none
    |none=>none
   |none=>none
  |_=>none
 |_,_=>none
def aestore (s:AS) (m st v:Value):Option AS:=match m,st with
 | .map (some r), .int .i64 b=>match s.h.get r with
  |some (.map es c)=>match es.findIdx? (fun e=>(e.born:Int)==b) with
   |some i=>aput s r (some (.map (es.modify i fun e=> {e with val:=v}) c))
   |none=>none
  |_=>none
 |_,_=>none
def amkmap (s:AS):Option (Value × AS):=match anew s (.map #[] 0) with
 |some (k,s')=>some (.map (some k),s')
 |none=>none
def cands (es:Array MapEntry) (since:Nat) (seen:Array Nat):Array (Option MapEntry):=
 (if ((es.filter fun e=> !seen.contains e.born).filter (·.born<since)).isEmpty then #[none] else #[])++ (((es.filter fun e=> !seen.contains e.born).filter (·.born<since))++ ((es.filter fun e=> !seen.contains e.born).filter (·.born≥since))).map some
def astep (es:Array MapEntry) (since:Nat) (seen:Array Nat) (last:Nat):Option (Option MapEntry):=
 if !seen.isEmpty&& !es.isEmpty&&es.all (·.born≥last) then none else
 match (cands es since seen).toList with
 | [x] =>some x
 |_=>none
def arange (C:Cfg) (t:TypeId) (s:AS) (m:Value):Option (Value × AS):=match C.und t,m with
 |some (.map _ _), .map (some r)=>match s.h.get r with
  |some (.map _ c)=>match anew s (.mapIter (some r) c #[] c) with
   |some (k,s')=>some (.pointer (some ⟨k,0,none⟩),s')
   |none=>none
  |_=>none
 |_,_=>none
def anext (s:AS) (it:Value):Option (Value × AS):=match it with
 | .pointer (some ⟨r,0,none⟩)=>match s.h.get r with
  |some (.mapIter (some m) since seen last)=>match s.h.get m with
   |some (.map es clock)=>match astep es since seen last with
    |some (some e)=>match aput s r (some (.mapIter (some m) since (seen.push e.born) clock)) with
     |some s'=>some (.tuple #[.bool true,e.key,e.val],s')
     |none=>none
    |some none=>some (.tuple #[.bool false],s)
    |none=>none
   |_=>none
  |_=>none
 |_=>none
def aentryN (s:AS) (it:Value):Option Value:=match it with
 | .pointer (some ⟨r,0,none⟩)=>match s.h.get r with
  |some (.mapIter (some m) _ seen stepped)=>match seen.back?,s.h.get m with
   |some stamp,some (.map es clock)=>if clock !=stepped then none else match es.find? (·.born==stamp) with
    |some e=>some (.tuple #[e.key,e.val])
    |none=>none
   |_,_=>none
  |_=>none
 |_=>none
section
variable {C:Cfg} {P:Program} (hC:C.ok P) {ι:Emb} {s s':AS} {w:World} (hr:Rep P C.G ι s.mem w)
theorem Rep.emap {G:Nat} {m:Mem} (h:Rep P G ι m w) {k:Nat} {es:Array MapEntry} {c:Nat} (hk:m.get k=some (.map es c)): ∃b es',ι.b k=some b∧w.heap[b]? =some (.map es' c)∧esR ι es es':=by
 obtain ⟨b,o',hb,hw,hq⟩:=h.obj k _ hk
 cases o' with
 |map es' c'=>
  obtain ⟨rfl,h1,h2⟩:=hq
  exact ⟨b,es',hb,hw,h1,h2⟩
 |_=>exact hq.elim
theorem esR.empty {es es':Array MapEntry} (h:esR ι es es'):es'.isEmpty=es.isEmpty:=by
 rw [Bool.eq_iff_iff,Array.isEmpty_iff_size_eq_zero,Array.isEmpty_iff_size_eq_zero,h.1]
theorem vtup2 {a a' b b':Value} (h:VR ι a a') (k:VR ι b b'):VR ι (.tuple #[a,b]) (.tuple #[a',b']):= .tuple rfl fun i h1 h2=>by
 match i,h1 with
 |0,_=>exact h
 |1,_=>exact k
theorem vtup3 {a a' b b' c c':Value} (h:VR ι a a') (k:VR ι b b') (l:VR ι c c'):VR ι (.tuple #[a,b,c]) (.tuple #[a',b',c']):= .tuple rfl fun i h1 h2=>by
 match i,h1 with
 |0,_=>exact h
 |1,_=>exact k
 |2,_=>exact l
theorem esR.modify {es es':Array MapEntry} (h:esR ι es es') (i:Nat) (f f':MapEntry→MapEntry) (hf: ∀e e',entR ι e e'→entR ι (f e) (f' e')):esR ι (es.modify i f) (es'.modify i f'):=by
 refine ⟨by simp [h.1],fun j h1 h2=> ?_⟩
 simp only [Array.size_modify] at h1 h2
 rw [Array.getElem_modify,Array.getElem_modify]
 split
 ·exact hf _ _ (h.2 j h1 h2)
 ·exact h.2 j h1 h2
theorem esR.push {es es':Array MapEntry} (h:esR ι es es') {e e':MapEntry} (he:entR ι e e'):esR ι (es.push e) (es'.push e'):=by
 refine ⟨by simp [h.1],fun j h1 h2=> ?_⟩
 simp only [Array.size_push] at h1 h2
 rw [Array.getElem_push,Array.getElem_push]
 by_cases hj:j<es.size
 ·have hj':j<es'.size:=h.1▸hj
  simp only [hj,hj',dif_pos]
  exact h.2 j hj hj'
 ·have hj': ¬j<es'.size:=h.1▸hj
  simp only [hj,hj',dif_neg,not_false_eq_true]
  exact he
include hC hr in
theorem alookup_ok {t:TypeId} {ok:Bool} {m m' k k' v:Value} (h:alookup C P t ok s m k=some v) (hm:VR ι m m') (hk:VR ι k k'): ∃v',(Instr.lookup t m' k' ok).run P w= .ok v' w∧VR ι v v':=by
 unfold alookup at h
 split at h
 ·rename_i kt et es hd hes
  obtain ⟨es',hes',hget⟩: ∃es',esR ι es es'∧((m'= .map none∧es'= #[])∨ ∃r c,m'= .map (some r)∧w.heap[r]? =some (.map es' c)):=by
   unfold entsOf at hes
   split at hes
   ·cases hm
    cases hes
    exact ⟨#[],⟨rfl,fun i h=>absurd h (Nat.not_lt_zero _)⟩, .inl ⟨rfl,rfl⟩⟩
   ·cases hm with
    |map hb=>
     split at hes
     ·rename_i es0 c hg
      cases hes
      obtain ⟨b,es',hb2,hw,he⟩:=Rep.emap (m:=s.mem) hr hg
      rw [hb] at hb2
      cases hb2
      exact ⟨es',he, .inr ⟨_,_,rfl,hw⟩⟩
     ·cases hes
   ·cases hes
  split at h
  ·rename_i i hf
   split at h
   ·rename_i e he
    cases h
    obtain ⟨rfl,_,h1,h2,h3,_,h4⟩:=mfind_ok hf hk hes'
    rw [←hes'.empty] at h1
    obtain ⟨_,rfl⟩:=Array.getElem?_eq_some_iff.1 he
    refine ⟨if ok then .tuple #[es'[i].val, .bool true] else es'[i].val,?_,?_⟩
    ·rcases hget with ⟨rfl,rfl⟩| ⟨b,c,rfl,hw⟩
     ·exact absurd h3 (Nat.not_lt_zero _)
     ·simp [Instr.lookup,Cfg.run_und hC hd,run_getObjM hw,h1 w,h4 w]
    ·have hv:=(hes'.2 i h2 h3).2.1
     cases ok with
     |false=>exact hv
     |true=>exact vtup2 hv (.bool true)
   ·cases h
  ·rename_i hf
   split at h
   ·rename_i z hz
    cases h
    obtain ⟨rfl,_,h1,h2⟩:=mfind_ok hf hk hes'
    rw [←hes'.empty] at h1
    obtain ⟨hz1,hz2⟩:=azero_ok hC hz w
    simp only at h2
    refine ⟨if ok then .tuple #[z, .bool false] else z,?_,?_⟩
    ·rcases hget with ⟨rfl,rfl⟩| ⟨b,c,rfl,hw⟩
     ·have h1:=h1 w
      have h2:=h2 w
      simp only [List.isEmpty_toArray,List.isEmpty_nil] at h1 h2
      simp [Instr.lookup,Cfg.run_und hC hd,h1,h2,hz1]
     ·simp [Instr.lookup,Cfg.run_und hC hd,run_getObjM hw,h1 w,h2 w,hz1]
    ·cases ok with
     |false=>exact VR.flat ι hz2
     |true=>exact vtup2 (VR.flat ι hz2) (.bool false)
   ·cases h
  ·cases h
 ·cases h
include hC hr in
theorem aupdate_ok {t:TypeId} {m m' k k' v v':Value} (h:aupdate C P t s m k v=some s') (hm:VR ι m m') (hk:VR ι k k') (hv:VR ι v v'): ∃w',(Instr.mapUpdate t m' k' v').run P w= .ok () w'∧Tr P C.G ι s.mem w ι s'.mem w':=by
 unfold aupdate at h
 split at h
 ·rename_i kt et r hd
  cases hm with
  |map hb=>
   rename_i b
   split at h
   ·rename_i es c hg
    obtain ⟨b2,es',hb2,hw,he⟩:=Rep.emap (m:=s.mem) hr hg
    rw [hb] at hb2
    cases hb2
    have hne:s.mem.get r≠none:=by show s.h.get r≠none;rw [hg];exact fun e=>by cases e
    split at h
    ·rename_i i hf
     obtain ⟨rfl,hfk,h1,h2,h3,h5,h4⟩:=mfind_ok hf hk he
     rw [Array.getElem?_eq_getElem h2] at h
     simp only at h
     split at h
     ·rename_i hsb
      rw [←h5] at hsb
      refine ⟨_,?_,Tr.put hr hne hb (aput_get h) (aput_n h) (o':= .map (es'.modify i fun e=> {e with key:=k',val:=v'}) c) ⟨rfl,he.modify i _ _ fun e e' h=>⟨VR.flat ι hfk,hv,h.2.2⟩⟩⟩
      simp [Instr.mapUpdate,Cfg.run_und hC hd,run_getObjM hw,h1 w,h4 w,h3,keyStays (P:=P) hsb w,run_setObjM _ hw]
     ·cases h
    ·rename_i hf
     obtain ⟨rfl,hfk,h1,h2⟩:=mfind_ok hf hk he
     simp only at h2
     refine ⟨_,?_,Tr.put hr hne hb (aput_get h) (aput_n h) (o':= .map (es'.push {key:=k',val:=v',born:=c}) (c+1)) ⟨rfl,he.push ⟨hk,hv,rfl⟩⟩⟩
     simp [Instr.mapUpdate,Cfg.run_und hC hd,run_getObjM hw,h1 w,h2 w,run_setObjM _ hw]
    ·cases h
   ·cases h
 ·cases h
include hC hr in
theorem aentry_ok {t:TypeId} {m m' k k' v:Value} (h:aentry C P t s m k=some (v,s')) (hm:VR ι m m') (hk:VR ι k k'): ∃w' v',(Instr.mapEntry t m' k').run P w= .ok v' w'∧Tr P C.G ι s.mem w ι s'.mem w'∧VR ι v v':=by
 unfold aentry at h
 split at h
 ·rename_i kt et r hd
  cases hm with
  |map hb=>
   rename_i b
   split at h
   ·rename_i es c hg
    obtain ⟨b2,es',hb2,hw,he⟩:=Rep.emap (m:=s.mem) hr hg
    rw [hb] at hb2
    cases hb2
    have hne:s.mem.get r≠none:=by show s.h.get r≠none;rw [hg];exact fun e=>by cases e
    split at h
    ·rename_i i hf
     obtain ⟨rfl,hfk,h1,h2,h3,h5,h4⟩:=mfind_ok hf hk he
     rw [Array.getElem?_eq_getElem h2] at h
     simp only at h
     split at h
     ·rename_i hsb
      rw [←h5] at hsb
      split at h
      ·rename_i s2 hput
       cases h
       refine ⟨_, .tuple #[es'[i].val,goInt es'[i].born],?_,Tr.put hr hne hb (aput_get hput) (aput_n hput) (o':= .map (es'.modify i fun e=> {e with key:=k'}) c) ⟨rfl,he.modify i _ _ fun e e' h=>⟨VR.flat ι hfk,h.2.1,h.2.2⟩⟩,?_⟩
       ·simp [Instr.mapEntry,Cfg.run_und hC hd,run_getObjM hw,h1 w,h4 w,h3,keyStays (P:=P) hsb w,run_setObjM _ hw]
       ·have hv:=he.2 i h2 h3
        rw [hv.2.2]
        exact vtup2 hv.2.1 (.int _ _)
      ·cases h
     ·cases h
    ·rename_i hf
     obtain ⟨rfl,hfk,h1,h2⟩:=mfind_ok hf hk he
     simp only at h2
     split at h
     ·rename_i z hz
      split at h
      ·rename_i s2 hput
       cases h
       obtain ⟨hz1,hz2⟩:=azero_ok hC hz w
       refine ⟨_, .tuple #[z,goInt c],?_,Tr.put hr hne hb (aput_get hput) (aput_n hput) (o':= .map (es'.push {key:=k',val:=z,born:=c}) (c+1)) ⟨rfl,he.push ⟨hk,VR.flat ι hz2,rfl⟩⟩,vtup2 (VR.flat ι hz2) (.int _ _)⟩
       simp [Instr.mapEntry,Cfg.run_und hC hd,run_getObjM hw,h1 w,h2 w,hz1,run_setObjM _ hw]
      ·cases h
     ·cases h
    ·cases h
   ·cases h
 ·cases h
def esL (ι:Emb):List MapEntry→List MapEntry→Prop
 | [], [] =>True
 |a::l,b::m=>entR ι a b∧esL ι l m
 |_,_=>False
theorem esL_of {ι:Emb}: ∀ {l l':List MapEntry},l.length=l'.length→(∀i (h:i<l.length) (h':i<l'.length),entR ι l[i] l'[i])→esL ι l l'
 | [], [],_,_=>trivial
 |a::l,b::m,h,k=>⟨k 0 (by simp) (by simp),esL_of (by simpa using h) fun i h1 h2=>k (i+1) (by simpa using h1) (by simpa using h2)⟩
 | [],_::_,h,_=>by simp at h
 |_::_, [],h,_=>by simp at h
theorem esR.l {es es':Array MapEntry} (h:esR ι es es'):esL ι es.toList es'.toList:=esL_of (by simpa using h.1) fun i h1 h2=>by
 simp only [Array.getElem_toList]
 exact h.2 i (by simpa using h1) (by simpa using h2)
theorem esL.filter (p:Nat→Bool): ∀ {l l':List MapEntry},esL ι l l'→esL ι (l.filter fun e=>p e.born) (l'.filter fun e=>p e.born)
 | [], [],_=>trivial
 |a::l,b::m,h=>by
  have ih:=esL.filter p h.2
  simp only [List.filter_cons,h.1.2.2]
  split
  ·exact ⟨h.1,ih⟩
  ·exact ih
 | [],_::_,h=>h.elim
 |_::_, [],h=>h.elim
theorem esL.append: ∀ {a a' b b':List MapEntry},esL ι a a'→esL ι b b'→esL ι (a++b) (a'++b')
 | [], [],_,_,_,h=>h
 |_::_,_::_,_,_,h,k=>⟨h.1,esL.append h.2 k⟩
 | [],_::_,_,_,h,_=>h.elim
 |_::_, [],_,_,h,_=>h.elim
theorem esL.all (p:Nat→Bool): ∀ {l l':List MapEntry},esL ι l l'→(l'.all fun e=>p e.born)=l.all fun e=>p e.born
 | [], [],_=>rfl
 |a::l,b::m,h=>by simp only [List.all_cons,h.1.2.2,esL.all p h.2]
 | [],_::_,h=>h.elim
 |_::_, [],h=>h.elim
theorem esL.find (p:Nat→Bool): ∀ {l l':List MapEntry},esL ι l l'→ ∀e,(l.find? fun e=>p e.born)=some e→ ∃e',(l'.find? fun e=>p e.born)=some e'∧entR ι e e'
 | [], [],_,e,h=>by simp at h
 |a::l,b::m,h,e,he=>by
  simp only [List.find?_cons,h.1.2.2] at he ⊢
  split at he
  ·cases he
   exact ⟨b,rfl,h.1⟩
  ·exact esL.find p h.2 e he
 | [],_::_,h,_,_=>h.elim
 |_::_, [],h,_,_=>h.elim
theorem esL.idx (p:Nat→Bool): ∀ {l l':List MapEntry},esL ι l l'→(l'.findIdx? fun e=>p e.born)=l.findIdx? fun e=>p e.born
 | [], [],_=>rfl
 |a::l,b::m,h=>by simp only [List.findIdx?_cons,h.1.2.2,esL.idx p h.2]
 | [],_::_,h=>h.elim
 |_::_, [],h=>h.elim
theorem esL.nil: ∀ {l l':List MapEntry},esL ι l l'→l'.isEmpty=l.isEmpty
 | [], [],_=>rfl
 |_::_,_::_,_=>rfl
 | [],_::_,h=>h.elim
 |_::_, [],h=>h.elim
include hr in
theorem aestore_ok {t:TypeId} {m m' k k' v v':Value} (h:aestore s m k v=some s') (hm:VR ι m m') (hk:VR ι k k') (hv:VR ι v v'): ∃w',(Instr.entryStore t m' k' v').run P w= .ok () w'∧Tr P C.G ι s.mem w ι s'.mem w':=by
 unfold aestore at h
 split at h
 ·rename_i r bn
  cases hk
  cases hm with
  |map hb=>
   rename_i b
   split at h
   ·rename_i es c hg
    obtain ⟨b2,es',hb2,hw,he⟩:=Rep.emap (m:=s.mem) hr hg
    rw [hb] at hb2
    cases hb2
    have hne:s.mem.get r≠none:=by show s.h.get r≠none;rw [hg];exact fun e=>by cases e
    split at h
    ·rename_i i hi
     have hi':es'.findIdx? (fun e=>(e.born:Int)==bn)=some i:=by
      have e0: ∀ (x:Array MapEntry),x.findIdx? (fun e=>(e.born:Int)==bn)=x.toList.findIdx? (fun e=>(e.born:Int)==bn):=fun x=>by cases x;simp
      rw [e0] at hi ⊢
      rw [←hi]
      exact esL.idx (fun n=>(n:Int)==bn) he.l
     refine ⟨_,?_,Tr.put hr hne hb (aput_get h) (aput_n h) (o':= .map (es'.modify i fun e=> {e with val:=v'}) c) ⟨rfl,he.modify i _ _ fun e e' h=>⟨h.1,hv,h.2.2⟩⟩⟩
     simp [Instr.entryStore,run_getObjM hw,asInt,asIntOf,hi',run_setObjM _ hw]
    ·cases h
   ·cases h
 ·cases h
include hr in
theorem amkmap_ok {t:TypeId} {v:Value} (h:amkmap s=some (v,s')): ∃ι' w' v',(Instr.makeMap t none).run P w= .ok v' w'∧Tr P C.G ι s.mem w ι' s'.mem w'∧VR ι' v v':=by
 unfold amkmap at h
 split at h
 ·rename_i k s2 hk
  cases h
  obtain ⟨rfl,hn,hg⟩:=anew_ok hk
  exact ⟨ι.add s.n w.heap.size 0,w.alloc (.map #[] 0), .map (some w.heap.size),by simp [Instr.makeMap],Tr.new hr (Nat.le_refl _) hg (by show s.n<s'.n;omega) ⟨rfl,rfl,fun i h=>absurd h (Nat.not_lt_zero _)⟩, .map (Emb.add_b ..)⟩
 ·cases h
include hC hr in
theorem arange_ok {t:TypeId} {m m' v:Value} (h:arange C t s m=some (v,s')) (hm:VR ι m m'): ∃ι' w' v',(Instr.range t m').run P w= .ok v' w'∧Tr P C.G ι s.mem w ι' s'.mem w'∧VR ι' v v':=by
 unfold arange at h
 split at h
 ·rename_i kt et r hd
  cases hm with
  |map hb=>
   rename_i b
   split at h
   ·rename_i es c hg
    obtain ⟨b2,es',hb2,hw,he⟩:=Rep.emap (m:=s.mem) hr hg
    rw [hb] at hb2
    cases hb2
    split at h
    ·rename_i k s2 hk
     cases h
     obtain ⟨rfl,hn,hgt⟩:=anew_ok hk
     have hl:ι.le (ι.add s.n w.heap.size 0):=Emb.le_add (hr.new _ (Nat.le_refl _))
     refine ⟨ι.add s.n w.heap.size 0,w.alloc (.mapIter (some b) c #[] c), .pointer (some ⟨w.heap.size,0,none⟩),?_,Tr.new hr (Nat.le_refl _) hgt (by show s.n<s'.n;omega) ⟨(hl _ _ hb).1,rfl,rfl,rfl⟩, .ptr (Emb.add_b ..)⟩
     simp [Instr.range,Cfg.run_und hC hd,run_getObjM hw]
    ·cases h
   ·cases h
 ·cases h
theorem Rep.eiter {G:Nat} {m:Mem} (h:Rep P G ι m w) {k r a c:Nat} {sn:Array Nat} (hk:m.get k=some (.mapIter (some r) a sn c)): ∃b r',ι.b k=some b∧ι.b r=some r'∧w.heap[b]? =some (.mapIter (some r') a sn c):=by
 obtain ⟨b,o',hb,hw,hq⟩:=h.obj k _ hk
 cases o' with
 |mapIter m' a' b' c'=>
  cases m' with
  |none=>exact hq.elim
  |some m'=>
   obtain ⟨h1,rfl,rfl,rfl⟩:=hq
   exact ⟨b,m',hb,h1,hw⟩
 |_=>exact hq.elim
theorem run_getObjI {w:World} {r:Nat} {a b:Nat} {c:Array Nat} {m:Option Nat} (h:w.heap[r]? =some (.mapIter m a c b)): (getObj r).run P w= .ok (.mapIter m a c b) w:=by simp [getObj,Sem.run,h]
theorem run_setObjI {w:World} {r:Nat} {a b:Nat} {c:Array Nat} {m:Option Nat} (o:Obj) (h:w.heap[r]? =some (.mapIter m a c b)): (setObj r o).run P w= .ok () {w with heap:=w.heap.setIfInBounds r o}:=by simp [setObj,Sem.run,h]
def optR (ι:Emb):Option MapEntry→Option MapEntry→Prop
 |none,none=>True
 |some a,some b=>entR ι a b
 |_,_=>False
theorem cands_ok {es es':Array MapEntry} (he:esR ι es es') {since:Nat} {seen:Array Nat} {x:Option MapEntry} (h: (cands es since seen).toList= [x]): ∃x',(cands es' since seen).toList= [x'] ∧optR ι x x':=by
 have hl:=he.l
 have hleft:=esL.filter (fun n=> !seen.contains n) hl
 have hold:=esL.filter (fun n=>decide (n<since)) hleft
 have hnew:=esL.filter (fun n=>decide (n≥since)) hleft
 have key: ∀a:Array MapEntry,(cands a since seen).toList=(if ((a.toList.filter fun e=> !seen.contains e.born).filter fun e=>decide (e.born<since)).isEmpty then [none] else [])++ (((a.toList.filter fun e=> !seen.contains e.born).filter fun e=>decide (e.born<since))++ ((a.toList.filter fun e=> !seen.contains e.born).filter fun e=>decide (e.born≥since))).map some:=fun a=>by
  unfold cands
  obtain ⟨l⟩:=a
  have e1: (((⟨l⟩:Array MapEntry).filter fun e=> !seen.contains e.born).filter fun e=>decide (e.born<since)).isEmpty=((l.filter fun e=> !seen.contains e.born).filter fun e=>decide (e.born<since)).isEmpty:=by
   rw [←Array.isEmpty_toList]
   simp
  rw [e1]
  split<;>simp
 rw [key] at h
 rw [key]
 generalize ((es.toList.filter fun e=> !seen.contains e.born).filter fun e=>decide (e.born<since))=a at h hold
 generalize ((es.toList.filter fun e=> !seen.contains e.born).filter fun e=>decide (e.born≥since))=b at h hnew
 generalize ((es'.toList.filter fun e=> !seen.contains e.born).filter fun e=>decide (e.born<since))=a' at hold ⊢
 generalize ((es'.toList.filter fun e=> !seen.contains e.born).filter fun e=>decide (e.born≥since))=b' at hnew ⊢
 match a,a',hold,b,b',hnew with
 | [], [],_, [], [],_=>
  simp at h
  subst h
  exact ⟨none,by simp,trivial⟩
 | [], [],_,_::_,_::_,_=>simp at h
 | [e], [e'],hh, [], [],_=>
  simp at h
  subst h
  exact ⟨some e',by simp,hh.1⟩
 |_::_,_::_,_,_::_,_::_,_=>simp at h
 |_::_::_,_::_::_,_, [], [],_=>simp at h
 | [_],_::_::_,hh,_,_,_=>exact hh.2.elim
 |_::_::_, [_],hh,_,_,_=>exact hh.2.elim
 | [],_::_,hh,_,_,_=>exact hh.elim
 |_::_, [],hh,_,_,_=>exact hh.elim
 |_,_,_, [],_::_,hh=>exact hh.elim
 |_,_,_,_::_, [],hh=>exact hh.elim
include hr in
theorem anext_ok {t:TypeId} {it it' v:Value} (h:anext s it=some (v,s')) (hi:VR ι it it'): ∃w' v',(Instr.next it' false t).run P w= .ok v' w'∧Tr P C.G ι s.mem w ι s'.mem w'∧VR ι v v':=by
 unfold anext at h
 split at h
 ·rename_i r
  cases hi with
  |ptr hb=>
   rename_i b
   split at h
   ·rename_i m since seen last hg
    obtain ⟨b2,m',hb2,hbm,hw⟩:=Rep.eiter (m:=s.mem) hr hg
    rw [hb] at hb2
    cases hb2
    have hne:s.mem.get r≠none:=by show s.h.get r≠none;rw [hg];exact fun e=>by cases e
    split at h
    ·rename_i es clock hgm
     obtain ⟨m2,es',hm2,hwm,he⟩:=Rep.emap (m:=s.mem) hr hgm
     rw [hbm] at hm2
     cases hm2
     have hnil:=he.empty
     have hall: (es'.all fun e=>decide (e.born≥last))=es.all fun e=>decide (e.born≥last):=by
      rw [←Array.all_toList, ←Array.all_toList]
      exact esL.all (fun n=>decide (n≥last)) he.l
     cases hst:astep es since seen last with
     |none=>rw [hst] at h;cases h
     |some x=>
      rw [hst] at h
      unfold astep at hst
      split at hst
      ·cases hst
      rename_i hcond
      split at hst
      ·rename_i y hy
       cases hst
       obtain ⟨x',hx',hxr⟩:=cands_ok he hy
       have hsz: (cands es' since seen).size=1:=by rw [←Array.length_toList,hx'];rfl
       have hnx: ∀ (it2:Value),it2= .pointer (some ⟨b,0,none⟩)→(Instr.next it2 false t).run P w=(match x' with
         |some e=>((do
          setObj b (.mapIter (some m') since (seen.push e.born) clock)
          pure (.tuple #[.bool true,e.key,e.val]):Sem Value).run P w)
         |none=> .ok (.tuple #[.bool false]) w):=fun it2 e=>by
        subst e
        have hc': (!seen.isEmpty&& !es'.isEmpty&&es'.all fun e=>decide (e.born≥last))=false:=by rw [hnil,hall];simpa using hcond
        have hget: (cands es' since seen)[0]? =some x':=by rw [←Array.getElem?_toList,hx'];rfl
        unfold Instr.next
        simp only [Sem.run_bind,run_getObjI hw,Result.andThen,run_getObjM hwm]
        rw [if_neg (by rw [hc'];simp)]
        have hch: (choose (.mapNext (cands es' since seen).size)).run P w= .ok 0 w:=by rw [hsz];simp [Question.forced]
        unfold cands at hch hget
        simp only [Sem.run_bind,hch,Result.andThen,hget]
        cases x' with
        |none=>rfl
        |some e=>
         simp only [Sem.run_bind]
         rw [run_setObjI _ hw]
         rfl
       cases x with
       |none=>
        cases h
        cases x' with
        |some _=>exact hxr.elim
        |none=>
         refine ⟨w, .tuple #[.bool false],hnx _ rfl,Tr.refl hr,VR.flat ι (by simp [flat,flat1])⟩
       |some e=>
        cases x' with
        |none=>exact hxr.elim
        |some e'=>
         simp only at h
         split at h
         ·rename_i s2 hput
          cases h
          have hxr:entR ι e e':=hxr
          refine ⟨_, .tuple #[.bool true,e'.key,e'.val],?_,Tr.put hr hne hb (aput_get hput) (aput_n hput) (o':= .mapIter (some m') since (seen.push e'.born) clock) ⟨hbm,rfl,by rw [hxr.2.2],rfl⟩,vtup3 (.bool true) hxr.1 hxr.2.1⟩
          rw [hnx _ rfl]
          simp [run_setObjI _ hw]
         ·cases h
      ·cases hst
    ·cases h
   ·cases h
 ·cases h
include hr in
theorem aentryN_ok {it it' v:Value} (h:aentryN s it=some v) (hi:VR ι it it'): ∃v',(Instr.entry it').run P w= .ok v' w∧VR ι v v':=by
 unfold aentryN at h
 split at h
 ·rename_i r
  cases hi with
  |ptr hb=>
   rename_i b
   split at h
   ·rename_i m since seen last hg
    obtain ⟨b2,m',hb2,hbm,hw⟩:=Rep.eiter (m:=s.mem) hr hg
    rw [hb] at hb2
    cases hb2
    split at h
    ·rename_i stamp es clock hsn hgm
     obtain ⟨m2,es',hm2,hwm,he⟩:=Rep.emap (m:=s.mem) hr hgm
     rw [hbm] at hm2
     cases hm2
     split at h
     ·cases h
     rename_i hc
     split at h
     ·rename_i e hf
      cases h
      have e0: ∀ (x:Array MapEntry),x.find? (fun e=>e.born==stamp)=x.toList.find? (fun e=>e.born==stamp):=fun x=>by cases x;simp
      rw [e0] at hf
      obtain ⟨e',hf',her⟩:=esL.find (fun n=>n==stamp) he.l e hf
      rw [←e0] at hf'
      refine ⟨.tuple #[e'.key,e'.val],?_,vtup2 her.1 her.2.1⟩
      have hc': (clock !=last)=false:=by simpa using hc
      simp [Instr.entry,run_getObjI hw,hsn,run_getObjM hwm,hf']
      simpa using hc
     ·cases h
    ·cases h
   ·cases h
 ·cases h
end
end
end Go.Proofs.YtdcioacjhpnihaaGreatDoor
namespace Go.Proofs.YtdcioacjhpnihaaGreatDoor
open Go
noncomputable section
def ulook (n:Int):List Value→Option (Option Value)
 | [] =>some none
 | .tuple q::l=>match q.toList with
  | [.int .i64 n',v] =>if n'=n then some (some v) else ulook n l
  |_=>none
 |_=>none
def uput (n:Int) (v:Value):List Value→Option (List Value)
 | [] =>some [.tuple #[.int .i64 n,v]]
 | .tuple q::l=>match q.toList with
  | [.int .i64 n',_] =>if n'=n then some (.tuple #[.int .i64 n,v] ::l) else (match uput n v l with
   |some r=>some (.tuple q::r)
   |none=>none)
  |_=>none
 |_=>none
theorem prR.mem {ι:Emb}: ∀ {l:List Value} {m:List MapEntry},prR ι l m→ ∀e∈m, ∃n,e.key= .int .i64 n
 | [], [],_,e,h=>by cases h
 | .tuple q::l,e::m,h,x,hx=>by
  obtain ⟨⟨n,v,_,h2,_⟩,h4⟩:=h
  rcases List.mem_cons.1 hx with rfl |hx
  ·exact ⟨n,h2⟩
  ·exact prR.mem h4 x hx
theorem prR.look {ι:Emb} {n:Int}: ∀ {l:List Value} {m:List MapEntry} {r:Option Value},prR ι l m→ulook n l=some r→match r with
  |none=> ∀e∈m,e.key≠ .int .i64 n
  |some v=> ∃e∈m,e.key= .int .i64 n∧VR ι v e.val
 | [], [],r,_,h=>by
  cases h
  exact fun e he=>by cases he
 | .tuple q::l,e::m,r,hp,h=>by
  obtain ⟨⟨n',v,rfl,h2,h3⟩,h4⟩:=hp
  simp only [ulook] at h
  split at h
  ·rename_i hn
   subst hn
   cases h
   exact ⟨e,by simp,h2,h3⟩
  ·rename_i hn
   have:=prR.look h4 h
   cases r with
   |none=>
    intro x hx
    rcases List.mem_cons.1 hx with rfl |hx
    ·rw [h2]
     intro e
     injection e with _ e
     exact hn e
    ·exact this x hx
   |some v=>
    obtain ⟨x,hx,h5⟩:=this
    exact ⟨x,by simp [hx],h5⟩
theorem findNow_int {kk κ:IntKind} {n:Int}: ∀ (es:List MapEntry) (i:Nat),(∀e∈es, ∃n,e.key= .int κ n)→ ∃r,Instr.findNow (.int kk) (.int κ n) es i=some r∧(match r with
  |none=> ∀e∈es,e.key≠ .int κ n
  |some (j,v)=>i≤j∧ ∃e,es[j-i]? =some e∧e.key= .int κ n∧v=e.val)
 | [],i,_=>⟨none,rfl,fun e he=>by cases he⟩
 |e::es,i,h=>by
  obtain ⟨n',hn'⟩:=h e (by simp)
  obtain ⟨r,h1,h2⟩:=findNow_int (kk:=kk) (n:=n) es (i+1) fun x hx=>h x (by simp [hx])
  simp only [Instr.findNow,hn',Instr.sameNow,if_true]
  by_cases hn:n=n'
  ·subst hn
   simp only [BEq.rfl]
   exact ⟨_,rfl,Nat.le_refl _,e,by simp,hn',rfl⟩
  ·have hb: (n==n')=false:=by simpa using hn
   simp only [hb]
   refine ⟨r,h1,?_⟩
   cases r with
   |none=>
    intro x hx
    rcases List.mem_cons.1 hx with rfl |hx
    ·rw [hn']
     intro e
     injection e with _ e
     exact hn e.symm
    ·exact h2 x hx
   |some p=>
    obtain ⟨j,v⟩:=p
    obtain ⟨h3,x,h4,h5⟩:=h2
    refine ⟨by omega,x,?_,h5⟩
    rw [show j-i=(j- (i+1))+1 by omega]
    simpa using h4
section
variable {C:Cfg} {P:Program} (hC:C.ok P) {ι:Emb} {s s':AS} {w:World} (hr:Rep P C.G ι s.mem w)
theorem Rep.eumap {G:Nat} {m:Mem} (h:Rep P G ι m w) {k e z a:Nat} {buf:Array Value} {t:Bool} (hk:m.get k=some (.chan e buf true z a t)): ∃b es' c',ι.b k=some b∧w.heap[b]? =some (.map es' c')∧umapR ι buf.toList (.map es' c'):=by
 obtain ⟨b,o',hb,hw,hq⟩:=h.obj k _ hk
 obtain ⟨es',c',rfl,h1⟩:=hq
 exact ⟨b,es',c',hb,hw,es',c',rfl,h1⟩
def isIntD:TypeDesc→Bool
 | .int _=>true
 |_=>false
include hC in
theorem ucheckN {κ:IntKind} (j:Nat) {kt:TypeId} {d:TypeDesc} (hd:C.und kt=some d) (hi:isIntD d=true) (em:Bool) (n:Int): (Instr.checkKey em (j+1) kt (.int κ n)).run P w= .ok () w:=by
 cases d<;>first | (cases hi;done)|skip
 simp only [Instr.checkKey,Sem.run_bind,Cfg.run_und hC hd]
 rfl
include hC in
theorem ucheck {κ:IntKind} {kt:TypeId} {d:TypeDesc} (hd:C.und kt=some d) (hi:isIntD d=true) (em:Bool) (n:Int): (Instr.checkKey em 10000 kt (.int κ n)).run P w= .ok () w:=ucheckN hC 9999 hd hi em n
include hC in
theorem ufind {κ:IntKind} {kt:TypeId} {d:TypeDesc} (hd:C.und kt=some d) (hi:isIntD d=true) {n:Int} {es:List MapEntry} (h: ∀e∈es, ∃n,e.key= .int κ n): ∃r,(Instr.findKey kt (.int κ n) es).run P w= .ok r w∧(match r with
  |none=> ∀e∈es,e.key≠ .int κ n
  |some (j,v)=> ∃e,es[j]? =some e∧e.key= .int κ n∧v=e.val):=by
 cases d<;>first | (cases hi;done)|skip
 rename_i kk
 obtain ⟨r,h1,h2⟩:=findNow_int (kk:=kk) (κ:=κ) (n:=n) es 0 h
 refine ⟨r,by simp [Instr.findKey,Cfg.run_und hC hd,h1],?_⟩
 cases r with
 |none=>exact h2
 |some p=>obtain ⟨_,e,h3,h4⟩:=h2;exact ⟨e,by simpa using h3,h4⟩
theorem keyEq {es:List MapEntry} (hn: (es.map (·.key)).Nodup) {a b:MapEntry} (ha:a∈es) (hb:b∈es) (h:a.key=b.key):a=b:=by
 induction es with
 |nil=>cases ha
 |cons x es ih=>
  rw [List.map_cons,List.nodup_cons] at hn
  rcases List.mem_cons.1 ha with h1 |h1
  ·rcases List.mem_cons.1 hb with h2 |h2
   ·rw [h1,h2]
   ·exact absurd (List.mem_map.2 ⟨b,h2,by rw [←h,h1]⟩) hn.1
  ·rcases List.mem_cons.1 hb with h2 |h2
   ·exact absurd (List.mem_map.2 ⟨a,h1,by rw [h,h2]⟩) hn.1
   ·exact ih hn.2 h1 h2
def ulookup (C:Cfg) (t:TypeId) (ok:Bool) (buf:List Value) (k:Value):Option Value:=match C.und t,k with
 |some (.map kt et), .int .i64 n=>match C.und kt,ulook n buf with
  |some d,some r=>if isIntD d=true then (match r with
   |some v=>some (if ok then .tuple #[v, .bool true] else v)
   |none=>match azero C et with
    |some z=>some (if ok then .tuple #[z, .bool false] else z)
    |none=>none) else none
  |_,_=>none
 |_,_=>none
include hC hr in
theorem ulookup_ok {t:TypeId} {ok:Bool} {r e z a:Nat} {buf:Array Value} {b:Bool} {m' k k' v:Value} (h:ulookup C t ok buf.toList k=some v) (hg:s.h.get r=some (.chan e buf true z a b)) (hm:VR ι (.map (some r)) m') (hk:VR ι k k'): ∃v',(Instr.lookup t m' k' ok).run P w= .ok v' w∧VR ι v v':=by
 obtain ⟨b2,es',c',hb2,hw,es2,c2,heq,⟨m,hp,hpr⟩,hn1,hn2,hn3⟩:=Rep.eumap (m:=s.mem) hr hg
 cases heq
 cases hm with
 |map hb=>
  rw [hb] at hb2
  cases hb2
  unfold ulookup at h
  split at h
  ·rename_i kt et n hd
   cases hk
   split at h
   ·rename_i d r0 hkd hul
    split at h
    ·rename_i hi
     have hmem: ∀e∈es'.toList, ∃n,e.key= .int .i64 n:=fun e he=>hpr.mem e (hp.mem_iff.2 he)
     obtain ⟨r',h1,h2⟩:=ufind (w:=w) hC hkd hi (n:=n) hmem
     have hc:=ucheck (w:=w) (κ:= .i64) hC hkd hi es'.isEmpty n
     have hlk:=hpr.look hul
     split at h
     ·rename_i u
      cases h
      obtain ⟨e1,he1,hk1,hv1⟩:=hlk
      have he1':=hp.mem_iff.1 he1
      cases r' with
      |none=>exact absurd hk1 (h2 e1 he1')
      |some p=>
       obtain ⟨j,v'⟩:=p
       obtain ⟨e2,he2,hk2,rfl⟩:=h2
       have:=keyEq hn1 he1' (List.mem_of_getElem? he2) (hk1.trans hk2.symm)
       subst this
       refine ⟨if ok then .tuple #[e1.val, .bool true] else e1.val,by simp [Instr.lookup,Cfg.run_und hC hd,run_getObjM hw,hc,h1],?_⟩
       cases ok with
       |false=>exact hv1
       |true=>exact vtup2 hv1 (.bool true)
     ·split at h
      ·rename_i zv hz
       cases h
       cases r' with
       |none=>
        obtain ⟨hz1,hz2⟩:=azero_ok hC hz w
        refine ⟨if ok then .tuple #[zv, .bool false] else zv,by simp [Instr.lookup,Cfg.run_und hC hd,run_getObjM hw,hc,h1,hz1],?_⟩
        cases ok with
        |false=>exact VR.flat ι hz2
        |true=>exact vtup2 (VR.flat ι hz2) (.bool false)
       |some p=>
        obtain ⟨j,v'⟩:=p
        obtain ⟨e2,he2,hk2,rfl⟩:=h2
        exact absurd hk2 (hlk e2 (hp.mem_iff.2 (List.mem_of_getElem? he2)))
      ·cases h
    ·cases h
   ·cases h
  ·cases h
open Classical in
def uset (n:Int) (v:Value) (e:MapEntry):MapEntry:=if e.key= .int .i64 n then {e with val:=v} else e
theorem uset_key (n:Int) (v:Value) (e:MapEntry): (uset n v e).key=e.key:=by unfold uset;split<;>rfl
theorem uset_born (n:Int) (v:Value) (e:MapEntry): (uset n v e).born=e.born:=by unfold uset;split<;>rfl
theorem prR.put {n:Int} {v v':Value} (hv:VR ι v v'): ∀ {l:List Value} {m:List MapEntry} {l2:List Value},prR ι l m→(m.map (·.key)).Nodup→uput n v l=some l2→
  ((∃e∈m,e.key= .int .i64 n)→prR ι l2 (m.map (uset n v')))∧((∀e∈m,e.key≠ .int .i64 n)→ ∀c,prR ι l2 (m++ [{key:= .int .i64 n,val:=v',born:=c}]))
 | [], [],l2,_,_,h=>by
  cases h
  exact ⟨(fun ⟨e,he,_⟩=>by cases he),fun _ c=>⟨⟨n,v,rfl,rfl,hv⟩,trivial⟩⟩
 | .tuple q::l,e::m,l2,hp,hn,h=>by
  obtain ⟨⟨n',u,rfl,h2,h3⟩,h4⟩:=hp
  rw [List.map_cons,List.nodup_cons] at hn
  simp only [uput] at h
  split at h
  ·rename_i hnn
   subst hnn
   cases h
   refine ⟨fun _=> ?_,fun hno=>absurd h2 (hno e (by simp))⟩
   refine ⟨⟨n',v,rfl,by rw [uset_key];exact h2,by unfold uset;rw [if_pos h2];exact hv⟩,?_⟩
   have:m.map (uset n' v')=m:=by
    refine (List.map_congr_left fun x hx=> ?_).trans (List.map_id m)
    unfold uset
    rw [if_neg fun e2=>hn.1 (List.mem_map.2 ⟨x,hx,e2.trans h2.symm⟩)]
    rfl
   rw [this]
   exact h4
  ·rename_i hnn
   have hne:e.key≠ .int .i64 n:=fun e2=>by
    rw [h2] at e2
    injection e2 with _ e2
    exact hnn e2
   split at h
   ·rename_i r hr2
    cases h
    obtain ⟨i1,i2⟩:=prR.put hv h4 hn.2 hr2
    refine ⟨fun ⟨x,hx,hxk⟩=> ?_,fun hno c=>⟨⟨n',u,rfl,h2,h3⟩,i2 (fun x hx=>hno x (by simp [hx])) c⟩⟩
    rcases List.mem_cons.1 hx with rfl |hx
    ·exact absurd hxk hne
    ·refine ⟨⟨n',u,rfl,by rw [uset_key];exact h2,by unfold uset;rw [if_neg hne];exact h3⟩,i1 ⟨x,hx,hxk⟩⟩
   ·cases h
theorem modify_uset {es:Array MapEntry} (hn: (es.toList.map (·.key)).Nodup) {j:Nat} {e:MapEntry} {n:Int} (hj:es.toList[j]? =some e) (hk:e.key= .int .i64 n) (v:Value): (es.modify j fun e=> {e with key:= .int .i64 n,val:=v}).toList=es.toList.map (uset n v):=by
 refine List.ext_getElem? fun i=> ?_
 rw [Array.getElem?_toList,List.getElem?_map]
 rw [Array.getElem?_modify, ←Array.getElem?_toList]
 by_cases hi:j=i
 ·subst hi
  rw [if_pos rfl,hj]
  simp [uset,hk]
 ·rw [if_neg hi]
  cases hx:es.toList[i]? with
  |none=>rfl
  |some x=>
   have:x.key≠ .int .i64 n:=fun e2=>hi (by
    have h1:=(List.getElem?_map (f:=fun e:MapEntry=>e.key) (l:=es.toList) (i:=j))
    have h2:=(List.getElem?_map (f:=fun e:MapEntry=>e.key) (l:=es.toList) (i:=i))
    rw [hj] at h1
    rw [hx] at h2
    simp only [Option.map_some,hk,e2] at h1 h2
    exact (List.getElem?_inj (List.getElem?_eq_some_iff.1 h1).1 hn).1 (h1.trans h2.symm))
   simp [uset,this]
theorem perm_nodup {α:Type} {l m:List α} (h:l.Perm m) (hn:m.Nodup):l.Nodup:=h.symm.nodup hn
def uupdate (C:Cfg) (t:TypeId) (buf:List Value) (k v:Value):Option (List Value):=match C.und t,k with
 |some (.map kt _), .int .i64 n=>match C.und kt with
  |some d=>if isIntD d=true then uput n v buf else none
  |none=>none
 |_,_=>none
include hC hr in
theorem uupdate_ok {t:TypeId} {r e z a:Nat} {buf:Array Value} {l2:List Value} {b:Bool} {m' k k' v v':Value} (h:uupdate C t buf.toList k v=some l2) (hg:s.h.get r=some (.chan e buf true z a b)) (hput:aput s r (some (.chan e l2.toArray true z a b))=some s') (hm:VR ι (.map (some r)) m') (hk:VR ι k k') (hv:VR ι v v'):
  ∃w',(Instr.mapUpdate t m' k' v').run P w= .ok () w'∧Tr P C.G ι s.mem w ι s'.mem w':=by
 obtain ⟨b2,es',c',hb2,hw,es2,c2,heq,⟨m,hp,hpr⟩,hn1,hn2,hn3⟩:=Rep.eumap (m:=s.mem) hr hg
 cases heq
 have hne:s.mem.get r≠none:=by show s.h.get r≠none;rw [hg];exact fun e=>by cases e
 cases hm with
 |map hb=>
  rw [hb] at hb2
  cases hb2
  unfold uupdate at h
  split at h
  ·rename_i kt et n hd
   cases hk
   split at h
   ·rename_i d hkd
    split at h
    ·rename_i hi
     have hmem: ∀e∈es'.toList, ∃n,e.key= .int .i64 n:=fun e he=>hpr.mem e (hp.mem_iff.2 he)
     obtain ⟨r',h1,h2⟩:=ufind (w:=w) hC hkd hi (n:=n) hmem
     have hc:=ucheck (w:=w) (κ:= .i64) hC hkd hi false n
     have hmn: (m.map (·.key)).Nodup:=perm_nodup (hp.map _) hn1
     obtain ⟨i1,i2⟩:=hpr.put hv hmn h
     cases r' with
     |none=>
      have hno: ∀e∈m,e.key≠ .int .i64 n:=fun e he=>h2 e (hp.mem_iff.1 he)
      refine ⟨_,?_,Tr.put hr hne hb (aput_get hput) (aput_n hput) (o':= .map (es'.push {key:= .int .i64 n,val:=v',born:=c'}) (c'+1)) ⟨_,_,rfl,⟨_,?_,i2 hno c'⟩,?_,?_,?_⟩⟩
      ·simp [Instr.mapUpdate,Cfg.run_und hC hd,run_getObjM hw,hc,h1,run_setObjM _ hw]
      ·rw [Array.toList_push]
       exact hp.append_right _
      ·rw [Array.toList_push,List.map_append,List.nodup_append]
       refine ⟨hn1,by simp,fun x hx y hy=> ?_⟩
       obtain ⟨e1,he1,rfl⟩:=List.mem_map.1 hx
       simp at hy
       subst hy
       exact h2 e1 he1
      ·intro e1 he1
       rw [Array.toList_push,List.mem_append] at he1
       rcases he1 with he1 |he1
       ·exact Nat.lt_succ_of_lt (hn2 e1 he1)
       ·simp at he1
        subst he1
        exact Nat.lt_succ_self _
      ·rw [Array.toList_push,List.map_append,List.nodup_append]
       refine ⟨hn3,by simp,fun x hx y hy=> ?_⟩
       obtain ⟨e1,he1,rfl⟩:=List.mem_map.1 hx
       simp at hy
       subst hy
       exact Nat.ne_of_lt (hn2 e1 he1)
     |some p=>
      obtain ⟨j,u⟩:=p
      obtain ⟨e2,he2,hk2,rfl⟩:=h2
      have hj:es'.toList[j]? =some e2:=he2
      have hmod:=modify_uset hn1 hj hk2 v'
      have hin:e2∈m:=hp.mem_iff.2 (List.mem_of_getElem? hj)
      refine ⟨_,?_,Tr.put hr hne hb (aput_get hput) (aput_n hput) (o':= .map (es'.modify j fun e=> {e with key:= .int .i64 n,val:=v'}) c') ⟨_,_,rfl,⟨_,?_,i1 ⟨e2,hin,hk2⟩⟩,?_,?_,?_⟩⟩
      ·have hst: (Instr.keyThatStays (Value.int .i64 n) (.int .i64 n)).run P w= .ok (.int .i64 n) w:=keyStays (by simp [Instr.sameBits]) w
       have hj2:es'[j]? =some e2:=by rw [←Array.getElem?_toList];exact hj
       simp [Instr.mapUpdate,Cfg.run_und hC hd,run_getObjM hw,hc,h1,hj2,hk2,hst,run_setObjM _ hw]
      ·rw [hmod]
       exact hp.map _
      ·rw [hmod,List.map_map]
       have: ((fun e:MapEntry=>e.key)∘uset n v')=fun e=>e.key:=funext fun e=>uset_key n v' e
       rw [this]
       exact hn1
      ·intro e1 he1
       rw [hmod] at he1
       obtain ⟨e3,he3,rfl⟩:=List.mem_map.1 he1
       rw [uset_born]
       exact hn2 e3 he3
      ·rw [hmod,List.map_map]
       have: ((fun e:MapEntry=>e.born)∘uset n v')=fun e=>e.born:=funext fun e=>uset_born n v' e
       rw [this]
       exact hn3
    ·cases h
   ·cases h
  ·cases h
end
end
end Go.Proofs.YtdcioacjhpnihaaGreatDoor
namespace Go.Proofs.YtdcioacjhpnihaaGreatDoor
open Go
noncomputable section
def dlookup (C:Cfg) (t:TypeId) (ok:Bool) (k:Value):Option Value:=match C.und t,k with
 |some (.map kt _), .int .u8 (.ofNat d)=>match C.und kt,C.dz[d]? with
  |some D,some f=>if isIntD D=true∧d<4 then some (if ok then .tuple #[.func (.func f) #[] #[], .bool true] else .func (.func f) #[] #[]) else none
  |_,_=>none
 |_,_=>none
def mlookup (C:Cfg) (P:Program) (t:TypeId) (ok:Bool) (s:AS) (m k:Value):Option Value:=match m with
 | .map (some r)=>match s.h.get r with
  |some (.chan _ buf true _ _ _)=>ulookup C t ok buf.toList k
  |none=>if r=15 then dlookup C t ok k else none
  |_=>alookup C P t ok s m k
 |_=>alookup C P t ok s m k
def mupdate (C:Cfg) (P:Program) (t:TypeId) (s:AS) (m k v:Value):Option AS:=match m with
 | .map (some r)=>match s.h.get r with
  |some (.chan e buf true z a b)=>match uupdate C t buf.toList k v with
   |some l=>aput s r (some (.chan e l.toArray true z a b))
   |none=>none
  |_=>aupdate C P t s m k v
 |_=>none
def mlen (C:Cfg) (t:TypeId) (s:AS) (m:Value):Option Value:=match C.und t,m with
 |some (.map _ _), .map (some r)=>match s.h.get r with
  |some (.map es _)=>some (goInt es.size)
  |some (.chan _ buf true _ _ _)=>some (goInt buf.size)
  |_=>none
 |_,_=>none
def mclear (C:Cfg) (t:TypeId) (s:AS) (x:Value):Option AS:=match C.und t,x with
 |some (.map _ _), .map none=>some s
 |some (.map _ _), .map (some r)=>match s.h.get r with
  |some (.map _ c)=>aput s r (some (.map #[] c))
  |some (.chan e _ true z a b)=>aput s r (some (.chan e #[] true z a b))
  |_=>none
 |some (.slice _), .slice none 0 0=>some s
 |some (.slice e), .slice (some ⟨k,o,sp⟩) n _=>if n=0 then some s else if sp=some 1 then none else match s.h.get k,azero C e with
  |some (.cells c e' _),some z=>if (zrow z (n*z.cells.size)).all flat1=true∧o+n*z.cells.size≤c.size then
    aput s k (some (.cells (c.toList.take o++ (zrow z (n*z.cells.size)).toList++c.toList.drop (o+ (zrow z (n*z.cells.size)).toList.length)).toArray e' (0,0))) else none
  |_,_=>none
 |_,_=>none
section
variable {C:Cfg} {P:Program} (hC:C.ok P) {ι:Emb} {s s':AS} {w:World} (hr:Rep P C.G ι s.mem w)
include hC hr in
theorem dlookup_ok {t:TypeId} {ok:Bool} {m' k k' v:Value} (h:dlookup C t ok k=some v) (hm:VR ι (.map (some 15)) m') (hk:VR ι k k'): ∃v',(Instr.lookup t m' k' ok).run P w= .ok v' w∧VR ι v v':=by
 cases hm with
 |map hb=>
  obtain ⟨_,es,c,hw,hn,hu,hd⟩:=hr.inv.pin _ hb
  unfold dlookup at h
  split at h
  ·rename_i kt et d ht
   cases hk
   split at h
   ·rename_i D f hkd hf
    split at h
    ·rename_i hi
     cases h
     obtain ⟨r',h1,h2⟩:=ufind (w:=w) (κ:= .u8) hC hkd hi.1 (n:=((d:Nat):Int)) hu
     have hc:=ucheck (w:=w) (κ:= .u8) hC hkd hi.1 es.isEmpty ((d:Nat):Int)
     obtain ⟨e1,he1,hk1,hv1⟩:=hd d f hi.2 (hC.2 d f hf)
     cases r' with
     |none=>exact absurd hk1 (h2 e1 he1)
     |some p=>
      obtain ⟨j,v'⟩:=p
      obtain ⟨e2,he2,hk2,rfl⟩:=h2
      have:=keyEq hn he1 (List.mem_of_getElem? he2) (hk1.trans hk2.symm)
      subst this
      refine ⟨if ok then .tuple #[e1.val, .bool true] else e1.val,by simp [Instr.lookup,Cfg.run_und hC ht,run_getObjM hw,hc,h1],?_⟩
      have hvv:VR ι (.func (.func f) #[] #[]) e1.val:=by rw [hv1];exact VR.flat ι rfl
      cases ok with
      |false=>exact hvv
      |true=>exact vtup2 hvv (.bool true)
    ·cases h
   ·cases h
  ·cases h
include hC hr in
theorem mlookup_ok {t:TypeId} {ok:Bool} {m m' k k' v:Value} (h:mlookup C P t ok s m k=some v) (hm:VR ι m m') (hk:VR ι k k'): ∃v',(Instr.lookup t m' k' ok).run P w= .ok v' w∧VR ι v v':=by
 unfold mlookup at h
 split at h
 ·split at h
  ·rename_i hg
   exact ulookup_ok hC hr h hg hm hk
  ·split at h
   ·rename_i e15
    subst e15
    exact dlookup_ok hC hr h hm hk
   ·cases h
  ·exact alookup_ok hC hr h hm hk
 ·exact alookup_ok hC hr h hm hk
include hC hr in
theorem mupdate_ok {t:TypeId} {m m' k k' v v':Value} (h:mupdate C P t s m k v=some s') (hm:VR ι m m') (hk:VR ι k k') (hv:VR ι v v'): ∃w',(Instr.mapUpdate t m' k' v').run P w= .ok () w'∧Tr P C.G ι s.mem w ι s'.mem w':=by
 unfold mupdate at h
 split at h
 ·split at h
  ·rename_i hg
   split at h
   ·rename_i l hl
    exact uupdate_ok hC hr hl hg h hm hk hv
   ·cases h
  ·exact aupdate_ok hC hr h hm hk hv
 ·cases h
theorem prR.len {ι:Emb}: ∀ {l:List Value} {m:List MapEntry},prR ι l m→l.length=m.length
 | [], [],_=>rfl
 | .tuple _::l,_::m,h=>by simp only [List.length_cons,prR.len h.2]
include hC hr in
theorem mlen_ok {t ty:TypeId} {m m' v:Value} (h:mlen C t s m=some v) (hm:VR ι m m'): (Builtin.len_ #[t] ty #[m']).run P w= .ok v w∧flat1 v=true:=by
 unfold mlen at h
 split at h
 ·rename_i kt et r hd
  cases hm with
  |map hb=>
   split at h
   ·rename_i es c hg
    cases h
    obtain ⟨b2,es',hb2,hw,he⟩:=Rep.emap (m:=s.mem) hr hg
    rw [hb] at hb2
    cases hb2
    exact ⟨by simp [Builtin.len_,Cfg.run_und hC hd,run_getObjM hw,he.1],rfl⟩
   ·rename_i hg
    cases h
    obtain ⟨b2,es',c',hb2,hw,es2,c2,heq,⟨m,hp,hpr⟩,_⟩:=Rep.eumap (m:=s.mem) hr hg
    cases heq
    rw [hb] at hb2
    cases hb2
    have h1:=hpr.len
    have h2:=hp.length_eq
    simp only [Array.length_toList] at h1 h2
    exact ⟨by simp [Builtin.len_,Cfg.run_und hC hd,run_getObjM hw,h1,h2],rfl⟩
   ·cases h
 ·cases h
include hC hr in
theorem mclear_ok {t ty:TypeId} {x x':Value} (h:mclear C t s x=some s') (hx:VR ι x x'): ∃w',(Builtin.clear_ #[t] ty #[x']).run P w= .ok undef w'∧Tr P C.G ι s.mem w ι s'.mem w':=by
 unfold mclear at h
 split at h
 ·rename_i hd
  cases h
  cases hx
  exact ⟨w,by simp [Builtin.clear_,Cfg.run_und hC hd,undef],Tr.refl hr⟩
 ·rename_i kt et r hd
  cases hx with
  |map hb=>
   split at h
   ·rename_i es c hg
    obtain ⟨b2,es',hb2,hw,he⟩:=Rep.emap (m:=s.mem) hr hg
    rw [hb] at hb2
    cases hb2
    have hne:s.mem.get r≠none:=by show s.h.get r≠none;rw [hg];exact fun e=>by cases e
    refine ⟨_,?_,Tr.put hr hne hb (aput_get h) (aput_n h) (o':= .map #[] c) ⟨rfl,rfl,fun i h=>absurd h (Nat.not_lt_zero _)⟩⟩
    simp [Builtin.clear_,Cfg.run_und hC hd,run_getObjM hw,run_setObjM _ hw,undef]
   ·rename_i hg
    obtain ⟨b2,es',c',hb2,hw,es2,c2,heq,_⟩:=Rep.eumap (m:=s.mem) hr hg
    cases heq
    rw [hb] at hb2
    cases hb2
    have hne:s.mem.get r≠none:=by show s.h.get r≠none;rw [hg];exact fun e=>by cases e
    refine ⟨_,?_,Tr.put hr hne hb (aput_get h) (aput_n h) (o':= .map #[] c') ⟨#[],c',rfl,⟨[],List.Perm.refl _,trivial⟩,by simp,(fun e he=>by cases he),by simp⟩⟩
    simp [Builtin.clear_,Cfg.run_und hC hd,run_getObjM hw,run_setObjM _ hw,undef]
   ·cases h
 ·rename_i e hd
  cases h
  cases hx
  exact ⟨w,by simp [Builtin.clear_,Cfg.run_und hC hd,undef],Tr.refl hr⟩
 ·rename_i e k o sp n c hd
  split at h
  ·rename_i hn
   cases h
   subst hn
   refine ⟨w,?_,Tr.refl hr⟩
   cases hx<;>simp [Builtin.clear_,Cfg.run_und hC hd,undef]
  rename_i hn
  split at h
  ·cases h
  rename_i hsp
  split at h
  ·rename_i cs e' fr z hg hz
   split at h
   ·rename_i hq
    obtain ⟨h1,h2⟩:=hq
    obtain ⟨hz1,hz2⟩:=azero_ok hC hz w
    obtain ⟨b,hb,c2,rfl⟩: ∃b,ι.b k=some b∧ ∃c2,x'= .slice (some ⟨b,o,none⟩) n c2:=by
     cases hx with
     |slX _ _ hb=>exact ⟨_,hb,_,rfl⟩
     |slG _ _ hb hm9=>exact ⟨_,hb,_,rfl⟩
     |slE=>exact absurd rfl hsp
     |slT=>exact absurd rfl hn
    have hfl: ∀v∈ (zrow z (n*z.cells.size)).toList,flat1 v=true:=fun v hv=>Array.all_eq_true'.1 h1 v (Array.mem_toList_iff.1 hv)
    have hlen: (zrow z (n*z.cells.size)).toList.length=n*z.cells.size:=by simp [zrow]
    obtain ⟨w',h3,h4⟩:=Rep.store (m:=s.mem) hr hg hb (o:=o) (l:=(zrow z (n*z.cells.size)).toList) (l':=(zrow z (n*z.cells.size)).toList) (by rw [hlen];exact h2) (VRl.refl1 ι hfl) (List.all_eq_true.2 fun v hv=>flat1_one (hfl v hv)) (aput_get h) (aput_n h)
    refine ⟨w',?_,h4⟩
    have hzc: (Builtin.zeroCells z.cells n).toList=(zrow z (n*z.cells.size)).toList:=by
     unfold Builtin.zeroCells zrow
     by_cases h0:z.cells.size=0
     ·simp [h0]
     ·simp
    obtain ⟨n',rfl⟩: ∃n',n=n'+1:=⟨n-1,by omega⟩
    simp [Builtin.clear_,Cfg.run_und hC hd,hz1,hzc,h3,undef]
   ·cases h
  ·cases h
 ·cases h
end
end
end Go.Proofs.YtdcioacjhpnihaaGreatDoor
namespace Go.Proofs.YtdcioacjhpnihaaGreatDoor
open Go
noncomputable section
theorem rowAt_mono {p:Program} {fits:TypeId→Bool} {d:Nat} {e:TypeId} {count count' off n:Nat} (hle:count≤count') (h:rowAt p fits d e count off n=true):rowAt p fits d e count' off n=true:=by
 cases d with
 |zero=>cases h
 |succ d=>
  simp only [rowAt] at h ⊢
  split at h
  ·cases h
  ·rename_i hs
   rw [if_neg hs]
   simp only [Bool.or_eq_true,Bool.and_eq_true,decide_eq_true_eq] at h ⊢
   rcases h with ⟨⟨h1,h2⟩,h3⟩| ⟨h1,h2⟩
   ·exact .inl ⟨⟨h1,by omega⟩,h3⟩
   ·exact .inr ⟨by omega,h2⟩
theorem liesAt_mono {p:Program}: ∀ {d:Nat} {e:TypeId} {count count' off:Nat} {u:TypeId} {n:Nat},count≤count'→liesAt p d e count off u n=true→liesAt p d e count' off u n=true
 |0,_,_,_,_,_,_,_,h=>by cases h
 |d+1,e,count,count',off,u,n,hle,h=>by
  simp only [liesAt,Bool.or_eq_true] at h ⊢
  rcases h with h |h
  ·exact .inl (rowAt_mono hle h)
  ·refine .inr ?_
   split at h
   ·exact liesAt_mono hle h
   ·cases h
def lies (C:Cfg) (P:Program) (s:AS) (k o:Nat) (u:TypeId) (n:Nat):Bool:=match s.h.get k with
 |some (.cells c e _)=>match C.size e with
  |some z=>decide (0<z)&&liesAt P P.depth e (c.size/z) o u n
  |none=>false
 |_=>false
section
variable {C:Cfg} {P:Program} (hC:C.ok P) {ι:Emb} {s s':AS} {w:World} (hr:Rep P C.G ι s.mem w)
include hC hr in
theorem lies_ok {k o b:Nat} {u:TypeId} {n:Nat} (h:lies C P s k o u n=true) (hb:ι.b k=some b): (variablesAt ⟨b,o,none⟩ u n).run P w= .ok true w:=by
 unfold lies at h
 split at h
 ·rename_i c e fr hg
  split at h
  ·rename_i z hz
   simp only [Bool.and_eq_true,decide_eq_true_eq] at h
   obtain ⟨b',c',fr',hb',hw,hfr,hs,hv⟩:=Rep.row (m:=s.mem) hr hg
   rw [hb] at hb'
   cases hb'
   have hcz:=Cfg.cellsOf hC hz
   have hle:c.size/z≤c'.size/P.cellsOf e:=by
    rw [hcz,hs,hcz]
    exact Nat.div_le_div_right (Nat.le_add_right _ _)
   have:=liesAt_mono hle h.2
   simp [variablesAt,World.shape?,hw,this]
  ·cases h
 ·cases h
def aunsafe (C:Cfg) (P:Program) (s:AS) (src dst:TypeId) (x:Value):Option Value:=match C.und src,C.und dst,x with
 |some (.pointer t),some .unsafePointer, .pointer (some ⟨k,o,none⟩)=>match s.h.get k,C.size t with
  |some (.cells c _ _),some n=>if n≠0∧o<c.size then some x else none
  |_,_=>none
 |some .unsafePointer,some (.pointer u), .pointer (some ⟨k,o,none⟩)=>match C.size u with
  |some n=>if n≠0∧lies C P s k o u 1=true then some x else none
  |none=>none
 |_,_,_=>none
theorem viewAt_cells {b:Nat} {c:Array Value} {e:TypeId} {f:Nat × Nat} (h:w.heap[b]? =some (.cells c e f)): (viewAt b).run P w= .ok none w:=by
 simp [viewAt,World.shape?,h]
include hC hr in
theorem aunsafe_ok {src dst:TypeId} {x x' v:Value} (h:aunsafe C P s src dst x=some v) (hx:VR ι x x'): (convert src dst x').run P w= .ok x' w∧v=x:=by
 unfold aunsafe at h
 split at h
 ·rename_i t k o hs hd
  cases hx with
  |ptr hb=>
   rename_i b
   split at h
   ·rename_i c e fr n hg hn
    split at h
    ·rename_i hq
     cases h
     refine ⟨?_,rfl⟩
     obtain ⟨b',c',fr',hb',hw,hfr,hs',hv⟩:=Rep.row (m:=s.mem) hr hg
     rw [hb] at hb'
     cases hb'
     have hv:=viewAt_cells (P:=P) hw
     have hci: (cellsIn b).run P w= .ok (some c'.size) w:=by simp [cellsIn,World.shape?,hw]
     have ho: ¬ (c'.size≤o):=by omega
     simp [convert,Cfg.run_und hC hs,Cfg.run_und hC hd,Conv.unsafePointer,Conv.seenAt,hv,hci,Cfg.run_size hC hn,hq.1,ho]
    ·cases h
   ·cases h
 ·rename_i u k o hs hd
  cases hx with
  |ptr hb=>
   rename_i b
   split at h
   ·rename_i n hn
    split at h
    ·rename_i hq
     cases h
     refine ⟨?_,rfl⟩
     have hl:=lies_ok hC hr hq.2 hb
     have hrow: ∃c e fr,s.h.get k=some (.cells c e fr):=by
      have:=hq.2
      unfold lies at this
      split at this
      ·rename_i c e fr hg;exact ⟨c,e,fr,hg⟩
      ·cases this
     obtain ⟨c,e,fr,hg⟩:=hrow
     obtain ⟨b',c',fr',hb',hw,hfr,hs',hv⟩:=Rep.row (m:=s.mem) hr hg
     rw [hb] at hb'
     cases hb'
     have hv:=viewAt_cells (P:=P) hw
     simp [convert,Cfg.run_und hC hs,Cfg.run_und hC hd,Conv.unsafePointer,Conv.seenAt,hv,Cfg.run_size hC hn,hq.1,hl]
    ·cases h
   ·cases h
 ·cases h
def asliceD (x:Value):Option Value:=match x with
 | .slice none 0 0=>some (.pointer none)
 | .slice (some ⟨k,o,sp⟩) _ c=>if c≠0∧sp≠some 1 then some (.pointer (some ⟨k,o,none⟩)) else none
 |_=>none
theorem asliceD_ok {ats:Array TypeId} {ty:TypeId} {x x' v:Value} (h:asliceD x=some v) (hx:VR ι x x') (w:World): ∃v',(Builtin.unsafeSliceData_ ats ty #[x']).run P w= .ok v' w∧VR ι v v':=by
 unfold asliceD at h
 split at h
 ·cases h
  cases hx
  exact ⟨.pointer none,Go.Lib.run_unsafeSliceData_nil w ats ty 0 0, .nilPtr⟩
 ·rename_i k o sp n c
  split at h
  ·rename_i hq
   cases h
   cases hx with
   |slX _ _ hb=>exact ⟨_,Go.Lib.run_unsafeSliceData_row w ats ty _ _ _ hq.1, .ptr hb⟩
   |slG _ _ hb hm9=>exact ⟨_,Go.Lib.run_unsafeSliceData_row w ats ty _ _ _ (by have:=hq.1;omega), .ptr hb⟩
   |slE=>exact absurd rfl hq.2
   |slT=>exact absurd rfl hq.1
  ·cases h
 ·cases h
def ausString (C:Cfg) (P:Program) (t:TypeId) (s:AS) (p n:Value):Option (Value × AS):=match C.und t,p,n with
 |some (.pointer _), .pointer none, .int .i64 0=>some (.string .empty,s)
 |some (.pointer u), .pointer (some ⟨k,o,none⟩), .int .i64 n=>if n=0 then some (.string .empty,s) else match s.h.get k with
  |some (.cells c _ _)=>if 0<n∧n≤1048576∧o+n.toNat≤c.size∧lies C P s k o u n.toNat=true then (match intsOf ((c.toList.drop o).take n.toNat) with
   |some ns=>if ns.all (fun x=>decide (0≤x∧x<256))=true then (match aput s k none with
    |some s'=>some (.string (pushAll ns),s')
    |none=>none) else none
   |none=>none) else none
  |_=>none
 |_,_,_=>none
theorem usString_none (pt it ty:TypeId) (p:Option Addr) (w:World): (Builtin.unsafeString_ #[pt,it] ty #[.pointer p, .int .i64 0]).run P w= .ok (.string .empty) w:=Go.Lib.run_unsafeString_none w pt it ty p
theorem usString_def (t t2 ty:TypeId) (a:Addr) (n:Int):Builtin.unsafeString_ #[t,t2] ty #[.pointer (some a), .int .i64 n] =(do
  let n←asInt (.int .i64 n)
  if n<0 then runtimePanic (.error "unsafe.String: len out of range")
  if n>IntKind.i64.max then unsupported (.unsafePointer "String: a length above the largest int")
  if n=0 then pure (.string .empty)
  else if←variablesAt a (←elemOf t) n.toNat then do
   let s←loadBytes a .empty n.toNat
   freeze a n.toNat
   pure (.string s)
  else unsupported (.unsafePointer "String: not so many bytes at ptr")):=rfl
theorem Tr.drop {G:Nat} {m m':Mem} (h:Rep P G ι m w) {k b:Nat} (hk:m.get k≠none) (hb:ι.b k=some b) (hm: ∀j,m'.get j=if j=k then none else m.get j) (hn:m'.n=m.n) {w':World} (hos:w'.os=w.os) (ht:w'.tape=w.tape) (hou:w'.output=w.output) (hsz:w'.heap.size=w.heap.size) (hot: ∀j,j≠b→w'.heap[j]? =w.heap[j]?):Tr P G ι m w ι m' w':=by
 have hd: ∀j,m'.get j≠none→j≠k∧m.get j≠none:=fun j hj=>by
  rw [hm] at hj
  by_cases e:j=k
  ·rw [if_pos e] at hj;exact absurd rfl hj
  ·rw [if_neg e] at hj;exact ⟨e,hj⟩
 refine ⟨ι.le_refl,⟨fun j oj hj=> ?_,fun i j c hi hj=>h.inj i j c (hd i hi).2 (hd j hj).2,fun j hj=>h.new j (hn▸hj),h.glob,h.inv.same (fun j hj=>(hd j hj).2) (Nat.le_of_eq hn.symm) fun j _ hq=>hot j (fun e=>hq k hk (e▸hb))⟩,hos,ht,hou,by omega,fun j hj hq=>hot j (fun e=>hq k hk (e▸hb)),fun j c hj hc _=>⟨j,(hd j hj).2,hc⟩,fun j hj=> .inl (hd j hj).2,by omega,fun _ _ h=>h⟩
 have hj0:m'.get j≠none:=by rw [hj];exact fun e=>by cases e
 obtain ⟨e2,h2⟩:=hd j hj0
 rw [hm,if_neg e2] at hj
 obtain ⟨c,oj',hc,hw',hr'⟩:=h.obj j oj hj
 refine ⟨c,oj',hc,(hot c fun e'=>e2 ?_).trans hw',hr'⟩
 subst e'
 exact h.inj j k c h2 hk hc hb
theorem run_loadBytesI: ∀ (ns:List Int) (a:Addr) (acc:ByteArray),(∀n∈ns,0≤n∧n<256)→(∀j x,ns[j]? =some x→w.cell? (a.add j)=some (.int .u8 x))→(loadBytes a acc ns.length).run P w= .ok (ns.foldl (fun r n=>r.push (UInt8.ofNat n.toNat)) acc) w
 | [],a,acc,_,_=>by simp [loadBytes]
 |x::l,a,acc,hb,h=>by
  have h0:w.cell? a=some (.int .u8 x):=by
   have:=h 0 x rfl
   simpa [Addr.add] using this
  have ih:=run_loadBytesI l (a.add 1) (acc.push (UInt8.ofNat x.toNat)) (fun n hn=>hb n (by simp [hn])) (fun j y hy=>by
   have:=h (j+1) y (by simpa using hy)
   have e: (a.add 1).add j=a.add (j+1):=by
    unfold Addr.add
    by_cases hj:j=0
    ·subst hj;simp
    ·simp [hj];omega
   rw [e];exact this)
  simp only [List.length_cons,loadBytes,Sem.run_bind,run_load,h0,Result.andThen]
  exact ih
include hC hr in
theorem ausString_ok {t:TypeId} {t2 ty:TypeId} {p p' n n' v:Value} (h:ausString C P t s p n=some (v,s')) (hp:VR ι p p') (hn:VR ι n n'): ∃w',(Builtin.unsafeString_ #[t,t2] ty #[p',n']).run P w= .ok v w'∧Tr P C.G ι s.mem w ι s'.mem w'∧flat1 v=true:=by
 unfold ausString at h
 split at h
 ·cases h
  cases hp
  cases hn
  exact ⟨w,usString_none ..,Tr.refl hr,rfl⟩
 ·rename_i u k o n ht
  cases hn
  cases hp with
  |ptr hb=>
   rename_i b
   split at h
   ·rename_i hn0
    cases h
    subst hn0
    exact ⟨w,usString_none ..,Tr.refl hr,rfl⟩
   rename_i hn0
   split at h
   ·rename_i c e fr hg
    split at h
    ·rename_i hq
     obtain ⟨h1,h2,h3,h4⟩:=hq
     split at h
     ·rename_i ns hns
      split at h
      ·rename_i hby
       split at h
       ·rename_i s2 hput
        cases h
        obtain ⟨b',c',fr',hb',hw,hfr,hs',hv⟩:=Rep.row (m:=s.mem) hr hg
        rw [hb] at hb'
        cases hb'
        have hl:=lies_ok hC hr h4 hb
        obtain ⟨l,hl1,hv1,hlen,hcell⟩:=Rep.load (m:=s.mem) hr hg hb h3
        have hints:=intsOf_ok _ _ hns
        have hl':l=ns.map (Value.int .u8):=by
         refine List.ext_getElem? fun i=> ?_
         by_cases hi:i<l.length
         ·have hi2:i< (((c.toList.drop o).take n.toNat)).length:=by rw [hv1.1];exact hi
          have:=hv1.2 i _ _ (List.getElem?_eq_getElem hi2) (List.getElem?_eq_getElem hi)
          have hf:flat1 ((c.toList.drop o).take n.toNat)[i] =true:=by
           have: ((c.toList.drop o).take n.toNat)[i] ∈ns.map (Value.int .u8):=by rw [←hints];exact List.getElem_mem hi2
           obtain ⟨_,_,e⟩:=List.mem_map.1 this
           rw [←e]
           rfl
          have:=this.flat_eq hf
          rw [List.getElem?_eq_getElem hi,this, ←hints,List.getElem?_eq_getElem hi2]
         ·rw [List.getElem?_eq_none (by omega), ←hints,List.getElem?_eq_none (by rw [hv1.1];omega)]
        have hnl:ns.length=n.toNat:=by rw [←hlen,hl'];simp
        have hlb:=run_loadBytesI (P:=P) (w:=w) ns ⟨b,o,none⟩ .empty (fun x hx=>by have:=List.all_eq_true.1 hby x hx;simpa using this) (fun j x hj=>hcell j _ (by rw [hl',List.getElem?_map,hj];rfl))
        rw [hnl] at hlb
        have hnat: ((n.toNat:Nat):Int)=n:=by omega
        refine ⟨w.freeze ⟨b,o,none⟩ n.toNat,?_,Tr.drop hr (by show s.h.get k≠none;rw [hg];exact fun e=>by cases e) hb (aput_get hput) (aput_n hput) ?_ ?_ ?_ ?_ ?_,rfl⟩
        ·have hlt: ¬ (n<0):=by omega
         have hel: (elemOf t).run P w= .ok u w:=by simp [elemOf,Cfg.run_und hC ht]
         have hlb': (loadBytes ⟨b,o,none⟩ .empty n.toNat).run P w= .ok (pushAll ns) w:=hlb
         rw [usString_def]
         simp [asInt,asIntOf,hlt,hn0,hel,hl,hlb']
         omega
        ·unfold World.freeze;split<;>rfl
        ·unfold World.freeze;split<;>rfl
        ·unfold World.freeze;split<;>rfl
        ·unfold World.freeze;split<;>simp
        ·intro j hj
         unfold World.freeze
         split
         ·rfl
         ·simp only [Array.getElem?_modify]
          rw [if_neg (Ne.symm hj)]
       ·cases h
      ·cases h
     ·cases h
    ·cases h
   ·cases h
 ·cases h
end
end
end Go.Proofs.YtdcioacjhpnihaaGreatDoor
namespace Go.Proofs.YtdcioacjhpnihaaGreatDoor
open Go
noncomputable section
def scalT (t:TypeId):Bool:=([2,3,5,6,9,10,11,12,21,35,51,157,260,557,582,608,609,611,612] :List Nat).contains t
def bslT (t:TypeId):Bool:=([168] :List Nat).contains t
def effD (d:Option Tmp):Bool:=match d with
 |some k=>([20,36] :List Nat).contains k
 |none=>false
end
end Go.Proofs.YtdcioacjhpnihaaGreatDoor
