/- Operations on symbols: strings with bytes that nobody knows, their parts, comparisons; numbers that nobody knows. Operations on symbols: parts, lengths, comparisons; numbers that nobody knows. Operations on symbols: comparisons of strings, and numbers that nobody knows, as operations. Operations on symbols: comparisons of strings, and numbers that nobody knows, as operations. -/
import Derived.Test.YtdcioacjhpnihaaGreatDoorQ1
set_option linter.all false
namespace Go.Proofs.YtdcioacjhpnihaaGreatDoor
open Go
noncomputable section
def byteV:Value→Bool
 | .int .u8 (.ofNat n)=>Nat.ble n 255
 | .float .f32 _=>true
 | .chan (some 0)=>true
 |_=>false
def bytV (b:UInt8):Value:= .int .u8 (b.toNat:Int)
theorem u8_of {n:Nat} (h:n<256): ((UInt8.ofNat n).toNat:Int)=n:=by
 rw [UInt8.toNat_ofNat']
 omega
theorem byteV_ok {ι:Emb} {v v':Value} (hv:byteV v=true) (h:VR ι v v'): ∃b:UInt8,v'=bytV b:=by
 unfold byteV at hv
 split at hv
 ·rename_i n
  cases h
  have:=Nat.le_of_ble_eq_true hv
  exact ⟨UInt8.ofNat n,congrArg (Value.int .u8) (u8_of (by omega)).symm⟩
 ·cases h with
  |cb hf hi=>
   have:=hf.byte _ hi
   exact ⟨UInt8.ofNat _,congrArg (Value.int .u8) (u8_of this).symm⟩
 ·cases h with
  |unk k n hk=>
   obtain ⟨h1,h2⟩:0≤n∧n<256:=hk
   refine ⟨UInt8.ofNat n.toNat,congrArg (Value.int .u8) ?_⟩
   rw [u8_of (by omega)]
   omega
 ·cases hv
theorem bytes_ok {ι:Emb}: ∀ {l l':List Value},l.all byteV=true→VRl ι l l'→ ∃bs:List UInt8,l'=bs.map bytV
 | [],l',_,h=>by
  have:=h.1
  match l',this with
  | [],_=>exact ⟨[],rfl⟩
 |v::l,l',ha,h=>by
  match l',h with
  | [],h=>exact absurd h.1 (by simp)
  |v'::l',h=>
   rw [List.all_cons,Bool.and_eq_true] at ha
   obtain ⟨b,rfl⟩:=byteV_ok ha.1 (h.2 0 _ _ rfl rfl)
   obtain ⟨bs,rfl⟩:=bytes_ok (l:=l) (l':=l') ha.2 ⟨by simpa using h.1,fun i x y hx hy=>h.2 (i+1) x y (by simpa using hx) (by simpa using hy)⟩
   exact ⟨b::bs,rfl⟩
theorem VR.mixL {ι:Emb} {l:List Value} {bs:List UInt8} (h:VRl ι l (bs.map bytV)):VR ι (.func (.method "") l.toArray #[]) (.string (bsB bs)):=
 .mix (by simpa using h.1) fun i a b=>h.2 i _ _ (by rw [List.getElem?_eq_getElem (by simpa using a)];simp) (by rw [List.getElem?_map,List.getElem?_eq_getElem b];rfl)
theorem mixL_inv {ι:Emb} {cs:Array Value} {f c:Array Value} {m:String} {v':Value} (h:VR ι (.func (.method m) cs f) v'):f= #[] ∧m= "" ∧ ∃bs:List UInt8,v'= .string (bsB bs)∧VRl ι cs.toList (bs.map bytV):=by
 cases h with
 | @mix _ l hs hc=>
  refine ⟨rfl,rfl,l,rfl,by simpa using hs,fun i x y hx hy=> ?_⟩
  rw [Array.getElem?_toList,Array.getElem?_eq_some_iff] at hx
  obtain ⟨h1,rfl⟩:=hx
  rw [List.getElem?_map] at hy
  have h2:i<l.length:=by omega
  rw [List.getElem?_eq_getElem h2] at hy
  cases hy
  exact hc i h1 h2
theorem pushAll_bs: ∀ (bs:List UInt8) (r:ByteArray),((bs.map fun b=>(b.toNat:Int)).foldl (fun r n=>r.push (UInt8.ofNat n.toNat)) r)=⟨⟨r.data.toList++bs⟩⟩
 | [],r=>by
  apply ByteArray.ext
  apply Array.ext'
  simp
 |b::bs,r=>by
  simp only [List.map_cons,List.foldl_cons]
  rw [pushAll_bs bs]
  have e:UInt8.ofNat (b.toNat:Int).toNat=b:=by
   rw [Int.toNat_natCast]
   exact UInt8.ofNat_toNat
  rw [e]
  congr 2
  show (r.push b).data.toList++bs=_
  rw [ByteArray.data_push,Array.toList_push]
  simp
section
variable {C:Cfg} {P:Program} (hC:C.ok P) {ι:Emb} {s s':AS} {w:World} (hr:Rep P C.G ι s.mem w)
def abytesM (C:Cfg) (s:AS) (src dst:TypeId) (x:Value):Option Value:=
 match C.und src,C.und dst with
 |some (.slice e),some .string=>match C.und e with
  |some (.int .u8)=>match x with
   | .slice (some a) len c=>match afirst s 1 len (.slice (some a) len c) with
    |some l=>if l.all byteV then some (.func (.method "") l.toArray #[]) else none
    |none=>none
   |_=>none
  |_=>none
 |_,_=>none
include hC hr in
theorem abytesM_ok {src dst:TypeId} {x x' v:Value} (h:abytesM C s src dst x=some v) (hx:VR ι x x'): ∃v',(convert src dst x').run P w= .ok v' w∧VR ι v v':=by
 unfold abytesM at h
 split at h
 ·rename_i e hs hd
  split at h
  ·rename_i he
   split at h
   ·rename_i a len c
    split at h
    ·rename_i l hl
     split at h
     ·rename_i hb
      cases h
      obtain ⟨l',hv,hlen,h1,hrun⟩:=afirst_ok hr hl hx
      obtain ⟨bs,rfl⟩:=bytes_ok hb hv
      have hrun:=hrun w rfl
      refine ⟨_,?_,VR.mixL hv⟩
      have key: ∀ (a':Addr) (c':Nat),x'= .slice (some a') len c'→(convert src dst x').run P w= .ok (.string (bsB bs)) w:=fun a' c' e=>by
       subst e
       simp only [Builtin.firstCells,Nat.mul_one] at hrun
       have e2:bs.map bytV=(bs.map fun b=>(b.toNat:Int)).map (Value.int .u8):=by rw [List.map_map];rfl
       rw [e2] at hrun
       have:=run_bytesToString w a' len c' _ hrun
       simp only [convert,Sem.run_bind,Cfg.run_und hC hs,Cfg.run_und hC hd,Cfg.run_und hC he,Result.andThen,this]
       rw [pushAll_bs]
       rfl
      cases hx with
      |slX _ _ _=>exact key _ _ rfl
      |slG _ _ _ _=>exact key _ _ rfl
      |slE _ _=>exact key _ _ rfl
      |slT _ _ _ _=>exact key _ _ rfl
     ·cases h
    ·cases h
   ·cases h
  ·cases h
 ·cases h
def astringM (C:Cfg) (s:AS) (src dst:TypeId) (x:Value):Option (Value × AS):=
 match C.und src,C.und dst,x with
 |some .string,some (.slice e), .func (.method _) cs _=>match C.und e,C.size e with
  |some (.int .u8),some 1=>if cs.size≤1048576 then match arow s e cs with
   |some (k,s')=>some (.slice (some ⟨k,0,some 0⟩) cs.size cs.size,s')
   |none=>none else none
  |_,_=>none
 |_,_,_=>none
include hC hr in
theorem astringM_ok {src dst:TypeId} {x x' v:Value} (h:astringM C s src dst x=some (v,s')) (hx:VR ι x x'):
  ∃ι' w' v',(convert src dst x').run P w= .ok v' w'∧Tr P C.G ι s.mem w ι' s'.mem w'∧VR ι' v v':=by
 unfold astringM at h
 split at h
 ·rename_i e m cs f hs hd
  obtain ⟨rfl,rfl,bs,rfl,hl0⟩:=mixL_inv (c:= #[]) hx
  have hlen:cs.size=bs.length:=by have:=hl0.1;simpa using this
  split at h
  ·rename_i he hz
   split at h
   rotate_left
   ·cases h
   rename_i hbs
   split at h
   ·rename_i k s2 hk
    cases h
    unfold arow at hk
    obtain ⟨rfl,hn1,hg⟩:=anew_ok hk
    have hsz0: (bsB bs).size=cs.size:=hlen.symm
    obtain ⟨cap,hcap⟩: ∃cap,cap=grownCap w cs.size 0 e:=⟨_,rfl⟩
    have hge:cs.size≤cap:=hcap▸grownCap_ge ..
    have hbl: (bs.map bytV).length=cs.size:=by rw [List.length_map,hlen]
    have hl:ι.le (ι.add s.n w.drew.heap.size (cap-cs.size)):=Emb.le_add (hr.new _ (Nat.le_refl _))
    have hsz: ((bs.map bytV).toArray++Array.replicate (cap-cs.size) (Value.int .u8 0)).size=cap:=by
     rw [Array.size_append,Array.size_replicate,List.size_toArray,hbl]
     omega
    refine ⟨ι.add s.n w.drew.heap.size (cap-cs.size),w.drew.alloc (.cells ((bs.map bytV).toArray++Array.replicate (cap-cs.size) (.int .u8 0)) e (cap,cap+1)), .slice (some ⟨w.heap.size,0,none⟩) cs.size cap,?_,
     (Tr.drew hr).trans (Tr.new hr.drew (Nat.le_refl _) hg (by show s.n<s'.n;omega) ⟨rfl,⟨fun i hi=>by rw [hsz] at hi;simp;omega, .inr ⟨rfl,Cfg.und_ok hC he⟩⟩,?_,fun j a b'=> ?_⟩),?_⟩
    ·have hq: (Question.appendCap cs.size 0 e).cut (w.tape w.drawn (.appendCap cs.size 0 e))=cap:=hcap.symm
     have hbc: ((bsB bs).data.map fun b=>Value.int .u8 b.toNat)=(bs.map bytV).toArray:=by unfold bsB;apply Array.ext';simp;exact fun a _=>rfl
     have hfr:=freeze_new w.drew ((bs.map bytV).toArray++Array.replicate (cap-cs.size) (.int .u8 0)) e cap
     simp only [convert,Sem.run_bind,Cfg.run_und hC hs,Cfg.run_und hC hd,Cfg.run_und hC he,Result.andThen,Conv.stringToBytes,run_choose,Question.forced,Bool.false_eq_true,if_false,hsz0,hq,newRow,run_newObj,Sem.run_pure,markStringish,run_shape]
     have hsh: (World.shape? {w with heap:=w.heap.push (.cells (((bsB bs).data.map fun b=>Value.int .u8 b.toNat)++Array.replicate (cap-cs.size) (.int .u8 0)) e),drawn:=w.drawn+1} w.heap.size)=some (e,cap):=by
      rw [hbc]
      simp only [World.shape?,Array.getElem?_push_size]
      rw [hsz]
     simp only [hsh,run_freeze]
     rw [hbc]
     exact congrArg (Result.ok _) hfr
    ·rw [hsz,Cfg.cellsOf hC hz]
     omega
    ·rw [Array.getElem_append_left (by rw [List.size_toArray,hbl];exact a)]
     refine (hl0.2 j _ _ (by rw [Array.getElem?_toList,Array.getElem?_eq_getElem a]) ?_).mono hl
     rw [List.getElem_toArray,List.getElem?_eq_getElem (by rw [hbl];exact a)]
    ·have:=VR.slG (ι:=ι.add s.n w.drew.heap.size (cap-cs.size)) (o:=0) cs.size cs.size (Emb.add_b ι s.n w.drew.heap.size (cap-cs.size)) (by
      have:=grownCap_le_maxLen w cs.size 0 e (by unfold maxLen;omega)
      rw [Emb.add_x]
      omega)
     rw [Emb.add_x] at this
     rw [show cs.size+ (cap-cs.size)=cap by omega] at this
     exact this
   ·cases h
  ·cases h
 ·cases h
end
end
end Go.Proofs.YtdcioacjhpnihaaGreatDoor
namespace Go.Proofs.YtdcioacjhpnihaaGreatDoor
open Go
noncomputable section
section
variable {C:Cfg} {P:Program} (hC:C.ok P) {ι:Emb}
def asliceM (C:Cfg) (t:TypeId) (x:Value) (lo hi mx:Option Value):Option Value:=match mx,C.und t,x with
 |none,some .string, .func (.method _) cs _=>match bnd lo 0,bnd hi (len8 cs.toList) with
  |some l,some h=>if l≤h∧h≤len8 cs.toList then some (.func (.method "") ⟨take8 (drop8 cs.toList l) (h-l)⟩ #[]) else none
  |_,_=>none
 |_,_,_=>none
include hC in
theorem asliceM_ok {t:TypeId} {x x' v:Value} {lo hi mx lo' hi' mx':Option Value} (h:asliceM C t x lo hi mx=some v) (hx:VR ι x x') (hl:optVR ι lo lo') (hh:optVR ι hi hi') (hm:optVR ι mx mx') (w:World):
  ∃v',(Instr.sliceAt t x' lo' hi' mx').run P w= .ok v' w∧VR ι v v':=by
 unfold asliceM at h
 split at h
 ·rename_i m cs f hd
  have hm':mx'=none:=by cases mx' with |none=>rfl |some _=>exact hm.elim
  subst hm'
  obtain ⟨rfl,rfl,bs,rfl,hl0⟩:=mixL_inv (c:= #[]) hx
  have hlen:cs.toList.length=bs.length:=by have:=hl0.1;rwa [List.length_map] at this
  split at h
  ·rename_i l hh' e1 e2
   split at h
   ·rename_i hq
    cases h
    rw [len8_eq] at hq e2
    have hsz: (bsB bs).size=cs.toList.length:=hlen.symm
    refine ⟨.string ((bsB bs).extract l hh'),?_,?_⟩
    ·have:=bounds_ok (P:=P) (b:=false) hl hh e1 e2 hq.1 hq.2 w
     rw [Array.length_toList] at this hsz
     simp [Instr.sliceAt,Instr.slice,Cfg.run_und hC hd,hsz,this]
    ·rw [extract8,drop8_eq,take8_eq,drop8_eq,take8_eq]
     have h2:=(hl0.drop l).take (hh'-l)
     rw [←List.map_drop, ←List.map_take] at h2
     exact VR.mixL h2
   ·cases h
  ·cases h
 ·cases h
def alenM (C:Cfg) (t:TypeId) (x:Value):Option Value:=match C.und t,x with
 |some .string, .func (.method _) cs _=>some (goInt cs.size)
 |some .string, .float .f64 c=>if c=1000000 then some (.chan (some 4)) else some (.chan (some 3))
 |_,_=>none
theorem symN_len {c:Nat} (h:Fact ι c): (symN ι c).length=symLen ι c:=by
 have:=h.len
 unfold symN symL
 simp
 omega
include hC in
theorem alenM_ok {t ty:TypeId} {x x' v:Value} (h:alenM C t x=some v) (hx:VR ι x x') (w:World): ∃v',(Builtin.len_ #[t] ty #[x']).run P w= .ok v' w∧VR ι v v':=by
 unfold alenM at h
 split at h
 ·rename_i cs f hd
  cases h
  obtain ⟨rfl,rfl,bs,rfl,hl0⟩:=mixL_inv (c:= #[]) hx
  have hlen:cs.size=bs.length:=by have:=hl0.1;simpa using this
  refine ⟨goInt cs.size,?_,VR.flat1 ι rfl⟩
  have e: (bsB bs).size=cs.size:=hlen.symm
  simp [Builtin.len_,Cfg.run_und hC hd,e]
 ·rename_i c hd
  cases hx with
  |sym hf=>
   have h1:=hf.small
   rw [if_neg (by omega)] at h
   cases h
   refine ⟨goInt (bsB (symN ι c)).size,by simp [Builtin.len_,Cfg.run_und hC hd],?_⟩
   have h2:=symN_len hf
   have h3:=hf.len
   have e: (bsB (symN ι c)).size=symLen ι c:=h2
   rw [e]
   exact .unk 3 _ ⟨by omega,by omega⟩
  |any k s hs=>
   refine ⟨goInt s.size,by simp [Builtin.len_,Cfg.run_und hC hd],?_⟩
   split at h
   ·rename_i hk
    cases h
    obtain rfl:k=0:=by omega
    have h1:100<s.size:=hs
    exact .unk 4 _ (by show (100:Int) < (s.size:Int);omega)
   ·rename_i hk
    cases h
    have h1:s.size≤100:=by
     match k,hs with
     |0,_=>exact absurd rfl hk
     |1,h=>exact h
     |2,h=>exact h.1
     |3,h=>
      have h:nameL s.data.toList=true:=h
      unfold nameL at h
      rw [Bool.and_eq_true,Bool.and_eq_true] at h
      have:=Nat.le_of_ble_eq_true h.1.2
      have e:s.size=s.data.toList.length:=rfl
      omega
    exact .unk 3 _ ⟨by omega,by show (s.size:Int)≤100;omega⟩
 ·cases h
theorem bl_eq: ∀ (x y:List UInt8),Op.bytesLess x y=decide (x<y)
 | [], [] =>by simp [Op.bytesLess]
 |_::_, [] =>by simp [Op.bytesLess]
 | [],_::_=>by simp [Op.bytesLess]
 |a::x,b::y=>by
  rw [Op.bytesLess,bl_eq x y]
  simp only [List.cons_lt_cons_iff]
  by_cases h1:a<b<;>by_cases h2:a=b<;>by_cases h3:x<y<;>simp [h1,h2,h3]
theorem bl_asymm {x y:List UInt8} (h:x≠y):Op.bytesLess y x= !Op.bytesLess x y:=by
 rw [bl_eq,bl_eq]
 by_cases h1:x<y
 ·rw [decide_eq_true h1,decide_eq_false (List.lt_asymm h1)]
  rfl
 ·rw [decide_eq_false h1]
  rcases List.le_iff_lt_or_eq.mp (List.not_lt.mp h1) with h2 |h2
  ·rw [decide_eq_true h2];rfl
  ·exact absurd h2.symm h
theorem bl_irrefl (x:List UInt8):Op.bytesLess x x=false:=by
 rw [bl_eq]
 exact decide_eq_false (List.lt_irrefl x)
def eqB:Value→Value→Option Bool
 | .int .u8 (.ofNat m), .int .u8 (.ofNat n)=>some (Nat.beq m n)
 | .float .f32 m, .float .f32 n=>Bool.rec none (some true) (Nat.beq m n)
 | .float .f32 m, .int .u8 (.ofNat 0)=>Bool.rec none (some false) (Nat.ble (Nat.succ (m%32)) (m/32/8000))
 |_,_=>none
theorem nbeq (m n:Nat):Nat.beq m n=decide (m=n):=by
 by_cases h:m=n
 ·subst h;rw [decide_eq_true rfl];exact Nat.beq_refl m
 ·rw [decide_eq_false h]
  cases e:Nat.beq m n with
  |false=>rfl
  |true=>exact absurd (Nat.eq_of_beq_eq_true e) h
theorem brecN {α:Type} {b:Bool} {y:α} {r:α} (h: (Bool.rec none (some y) b:Option α)=some r):b=true∧y=r:=by
 cases b with
 |true=>cases h;exact ⟨rfl,rfl⟩
 |false=>cases h
theorem cb_inv {m:Nat} {v':Value} (h:VR ι (.float .f32 m) v'):Fact ι (m/32)∧m%32<17∧v'= .int .u8 (ι.x (m/32%1000+m%32)):=by
 cases h with
 | @cb c i hf hi=>
  have e1: (c*32+i)/32=c:=by omega
  have e2: (c*32+i)%32=i:=by omega
  rw [e1,e2]
  exact ⟨hf,hi,rfl⟩
theorem eqB_ok {x y x' y':Value} {e:Bool} (h:eqB x y=some e) (hx:VR ι x x') (hy:VR ι y y'): ∃m n:Int,x'= .int .u8 m∧y'= .int .u8 n∧decide (m=n)=e:=by
 unfold eqB at h
 split at h
 ·rename_i m n
  cases hx
  cases hy
  cases h
  refine ⟨_,_,rfl,rfl,?_⟩
  rw [nbeq]
  by_cases hmn:m=n
  ·subst hmn;rw [decide_eq_true rfl,decide_eq_true rfl]
  ·rw [decide_eq_false hmn,decide_eq_false (fun q=>hmn (Int.ofNat.inj q))]
 ·rename_i m n
  obtain ⟨h1,rfl⟩:=brecN h
  obtain rfl:=Nat.eq_of_beq_eq_true h1
  obtain ⟨_,_,rfl⟩:=cb_inv hx
  obtain ⟨_,_,rfl⟩:=cb_inv hy
  exact ⟨_,_,rfl,rfl,decide_eq_true rfl⟩
 ·rename_i m
  obtain ⟨h1,rfl⟩:=brecN h
  have h1:=Nat.le_of_ble_eq_true h1
  obtain ⟨hf,hi,rfl⟩:=cb_inv hx
  cases hy
  refine ⟨_,_,rfl,rfl,decide_eq_false fun q=> ?_⟩
  have h2:=hf.sz (by omega)
  have h3:=hf.good (m%32) (by omega)
  unfold goodB at h3
  rw [Bool.and_eq_true,Bool.and_eq_true] at h3
  have h4:=Nat.le_of_ble_eq_true h3.1.1
  have q: ((ι.x (m/32%1000+m%32):Nat):Int)=0:=q
  omega
 ·cases h
def eqL:List Value→List Value→Option Bool
 | [], [] =>some true
 |x::l,y::m=>match eqL l m with
  |some false=>some false
  |some true=>eqB x y
  |none=>match eqB x y with
   |some false=>some false
   |_=>none
 |_,_=>some false
theorem bytV_int {b:UInt8} {n:Int} (h:bytV b= .int .u8 n):n=(b.toNat:Int):=by cases h;rfl
theorem eqL_ok: ∀ {l m:List Value} {bs ds:List UInt8} {e:Bool},eqL l m=some e→VRl ι l (bs.map bytV)→VRl ι m (ds.map bytV)→decide (bs=ds)=e
 | [], [],bs,ds,e,h,h1,h2=>by
  cases h
  have a:=h1.1
  have b:=h2.1
  rw [List.length_map] at a b
  rw [List.eq_nil_of_length_eq_zero a.symm,List.eq_nil_of_length_eq_zero b.symm]
  rfl
 |x::l,y::m,bs,ds,e,h,h1,h2=>by
  match bs,ds,h1,h2 with
  | [],_,h1,_=>exact absurd h1.1 (by simp)
  |_::_, [],_,h2=>exact absurd h2.1 (by simp)
  |b::bs,d::ds,h1,h2=>
   have a1:=h1.2 0 _ _ rfl rfl
   have a2:=h2.2 0 _ _ rfl rfl
   have b1:VRl ι l (bs.map bytV):=⟨by simpa using h1.1,fun i p q hp hq=>h1.2 (i+1) p q (by simpa using hp) (by simpa using hq)⟩
   have b2:VRl ι m (ds.map bytV):=⟨by simpa using h2.1,fun i p q hp hq=>h2.2 (i+1) p q (by simpa using hp) (by simpa using hq)⟩
   have hd: ∀e,eqB x y=some e→decide (b=d)=e:=fun e he=>by
    obtain ⟨p,q,e1,e2,e3⟩:=eqB_ok he a1 a2
    rw [bytV_int e1,bytV_int e2] at e3
    rw [←e3]
    by_cases hbd:b=d
    ·subst hbd;rw [decide_eq_true rfl,decide_eq_true rfl]
    ·rw [decide_eq_false hbd,decide_eq_false]
     intro hq
     exact hbd (UInt8.toNat_inj.1 (by omega))
   unfold eqL at h
   split at h
   ·rename_i hr
    cases h
    have:=eqL_ok hr b1 b2
    rw [decide_eq_false_iff_not] at this ⊢
    exact fun q=>this (List.cons.inj q).2
   ·rename_i hr
    have:=of_decide_eq_true (eqL_ok hr b1 b2)
    subst this
    rw [←hd _ h]
    by_cases hbd:b=d
    ·subst hbd;rw [decide_eq_true rfl,decide_eq_true rfl]
    ·rw [decide_eq_false hbd,decide_eq_false (fun q=>hbd (List.cons.inj q).1)]
   ·split at h
    ·rename_i he
     cases h
     have:=hd _ he
     rw [decide_eq_false_iff_not] at this ⊢
     exact fun q=>this (List.cons.inj q).1
    ·cases h
 | [],_::_,bs,ds,e,h,h1,h2=>by
  cases h
  have a:=h1.1
  have b:=h2.1
  simp only [List.length_map,List.length_nil,List.length_cons] at a b
  rw [decide_eq_false_iff_not]
  rintro rfl
  omega
 |_::_, [],bs,ds,e,h,h1,h2=>by
  cases h
  have a:=h1.1
  have b:=h2.1
  simp only [List.length_map,List.length_nil,List.length_cons] at a b
  rw [decide_eq_false_iff_not]
  rintro rfl
  omega
end
end
end Go.Proofs.YtdcioacjhpnihaaGreatDoor
namespace Go.Proofs.YtdcioacjhpnihaaGreatDoor
open Go
noncomputable section
def isCb (m:Nat):Value→Bool
 | .float .f32 n=>Nat.beq m n
 |_=>false
theorem isCb_ok {m:Nat} {v:Value} (h:isCb m v=true):v= .float .f32 m:=by
 unfold isCb at h
 split at h
 ·rw [Nat.eq_of_beq_eq_true h]
 ·cases h
def seqC:Nat→Nat→List Value→Bool
 |0,_, [] =>true
 |k+1,m,v::r=>isCb m v&&seqC k (m+1) r
 |_,_,_=>false
def kcode:List Value→Option Nat
 | .float .f32 m::r=>if m%32=0∧seqC 16 (m+1) r=true then some (m/32) else none
 |_=>none
def tlB:Nat→List UInt8→Bool
 |0, [x] =>Nat.beq x.toNat 1
 |k+1,x::r=>Nat.beq x.toNat 0&&tlB k r
 |_,_=>false
def litN:List UInt8→Option Nat
 |x::r=>if tlB 15 r=true then (if x.toNat=97 then some 97 else if x.toNat=98 then some 98 else none) else none
 |_=>none
def keyL (n:Nat):List UInt8:=UInt8.ofNat n:: (List.replicate 15 0++ [1])
theorem tlB_ok: ∀ (k:Nat) (r:List UInt8),tlB k r=true→r=List.replicate k 0++ [1]
 |0, [x],h=>by
  have h:Nat.beq x.toNat 1=true:=h
  have:=Nat.eq_of_beq_eq_true h
  rw [show x=1 from UInt8.toNat_inj.1 this]
  rfl
 |k+1,x::r,h=>by
  unfold tlB at h
  rw [Bool.and_eq_true] at h
  have:=Nat.eq_of_beq_eq_true h.1
  rw [show x=0 from UInt8.toNat_inj.1 this,tlB_ok k r h.2]
  rfl
 |0, [],h=>by cases h
 |0,_::_::_,h=>by cases h
 |k+1, [],h=>by cases h
theorem litN_ok {l:List UInt8} {n:Nat} (h:litN l=some n): (n=97∨n=98)∧l=keyL n:=by
 unfold litN at h
 split at h
 ·rename_i x r
  split at h
  ·rename_i ht
   have hr:=tlB_ok _ _ ht
   split at h
   ·rename_i hx
    cases h
    exact ⟨.inl rfl,by rw [hr];unfold keyL;rw [show x=UInt8.ofNat 97 from UInt8.toNat_inj.1 hx]⟩
   ·split at h
    ·rename_i hx
     cases h
     exact ⟨.inr rfl,by rw [hr];unfold keyL;rw [show x=UInt8.ofNat 98 from UInt8.toNat_inj.1 hx]⟩
    ·cases h
  ·cases h
 ·cases h
theorem seqC_ok {ι:Emb} {c:Nat} (hf:Fact ι c): ∀ (k i:Nat) (l:List Value) (bs:List UInt8),i+k=17→seqC k (c*32+i) l=true→VRl ι l (bs.map bytV)→bs=(List.range k).map fun j=>UInt8.ofNat (ι.x (c%1000+ (i+j)))
 |0,i, [],bs,_,_,h=>by
  have a:=h.1
  rw [List.length_map] at a
  rw [List.eq_nil_of_length_eq_zero a.symm]
  rfl
 |k+1,i,v::r,bs,hi,hs,h=>by
  unfold seqC at hs
  rw [Bool.and_eq_true] at hs
  obtain rfl:=isCb_ok hs.1
  match bs,h with
  | [],h=>exact absurd h.1 (by simp)
  |b::bs,h=>
   have a1:=h.2 0 _ _ rfl rfl
   obtain ⟨_,_,e⟩:=cb_inv a1
   rw [show (c*32+i)/32=c by omega,show (c*32+i)%32=i by omega] at e
   have e2:=bytV_int e
   have hb:b=UInt8.ofNat (ι.x (c%1000+i)):=UInt8.toNat_inj.1 (by rw [UInt8.toNat_ofNat'];have:=hf.byte i (by omega);omega)
   have ih:=seqC_ok hf k (i+1) r bs (by omega) hs.2 ⟨by simpa using h.1,fun i p q hp hq=>h.2 (i+1) p q (by simpa using hp) (by simpa using hq)⟩
   rw [List.range_succ_eq_map,List.map_cons,List.map_map,hb,ih]
   congr 1
   refine List.map_congr_left fun j _=> ?_
   show _=UInt8.ofNat (ι.x (c%1000+ (i+ (j+1))))
   rw [show i+ (j+1)=i+1+j by omega]
 |0,_,_::_,_,_,hs,_=>by cases hs
 |_+1,_, [],_,_,hs,_=>by cases hs
theorem kcode_ok {ι:Emb} {l:List Value} {bs:List UInt8} {c:Nat} (h:kcode l=some c) (hv:VRl ι l (bs.map bytV)):Fact ι c∧bs=symL ι c:=by
 unfold kcode at h
 split at h
 ·rename_i m r
  split at h
  ·rename_i hq
   cases h
   match bs,hv with
   | [],hv=>exact absurd hv.1 (by simp)
   |b::bs,hv=>
    obtain ⟨hf,_,e⟩:=cb_inv (hv.2 0 _ _ rfl rfl)
    refine ⟨hf,?_⟩
    have:=seqC_ok hf 17 0 (.float .f32 m::r) (b::bs) rfl (by
     unfold seqC isCb
     rw [Bool.and_eq_true]
     refine ⟨by rw [show m/32*32+0=m by omega];exact Nat.beq_refl m,?_⟩
     rw [show m/32*32+0+1=m+1 by omega]
     exact hq.2) hv
    rw [this]
    unfold symL
    refine List.map_congr_left fun j _=> ?_
    rw [Nat.zero_add]
  ·cases h
 ·cases h
theorem ordN_97 {r n:Nat} {b:Bool} (h:ordN r n=some b):n=97∨n=98:=by
 unfold ordN at h
 split at h
 ·split at h
  ·exact .inl ‹_›
  ·split at h
   ·exact .inr ‹_›
   ·cases h
 ·cases h
theorem symL_cons (ι:Emb) (c:Nat): ∃r,symL ι c=UInt8.ofNat (ι.x (c%1000+0))::UInt8.ofNat (ι.x (c%1000+1))::r:=⟨_,rfl⟩
theorem good_ne {n:Nat} (h:goodB n=true) (h2:n<256):UInt8.ofNat n≠0∧ ¬UInt8.ofNat n<0:=by
 unfold goodB at h
 rw [Bool.and_eq_true,Bool.and_eq_true] at h
 have h3:=Nat.le_of_ble_eq_true h.1.1
 refine ⟨fun e=> ?_,fun e=> ?_⟩
 ·have e1:=congrArg UInt8.toNat e
  rw [UInt8.toNat_ofNat'] at e1
  have e2: (0:UInt8).toNat=0:=rfl
  omega
 ·have:=UInt8.lt_iff_toNat_lt.1 e
  have e2: (0:UInt8).toNat=0:=rfl
  omega
theorem key_lt {ι:Emb} {c n:Nat} (hf:Fact ι c) (hn:n=97∨n=98):symL ι c≠keyL n∧Op.bytesLess (symL ι c) (keyL n)=Op.bytesLess (symN ι c) [UInt8.ofNat n] :=by
 obtain ⟨r,hr⟩:=symL_cons ι c
 have hl:=hf.len
 have hne:=hf.ne n hn
 have hN:symN ι c=(symL ι c).take (symLen ι c):=rfl
 have hk:keyL n=UInt8.ofNat n::0:: (List.replicate 14 0++ [1]):=rfl
 rw [hN,hr] at hne
 rw [hN,hr,hk]
 obtain ⟨q,hq⟩: ∃q,symLen ι c=q+1:=⟨symLen ι c-1,by omega⟩
 rw [hq,List.take_succ_cons] at hne ⊢
 by_cases hb:UInt8.ofNat (ι.x (c%1000+0))=UInt8.ofNat n
 ·rw [hb] at hne ⊢
  cases q with
  |zero=>exact absurd rfl hne
  |succ q=>
   obtain ⟨g1,g2⟩:=good_ne (hf.good 1 (by omega)) (hf.byte 1 (by decide))
   refine ⟨fun e=> ?_,?_⟩
   ·exact g1 (List.cons.inj (List.cons.inj e).2).1
   ·unfold Op.bytesLess
    rw [List.take_succ_cons]
    have e1: (UInt8.ofNat n<UInt8.ofNat n)=False:=eq_false (UInt8.lt_irrefl _)
    simp only [Op.bytesLess,e1,decide_false,Bool.false_or,beq_self_eq_true,Bool.true_and,g2,Bool.or_eq_false_iff,Bool.and_eq_false_imp,beq_iff_eq]
    exact fun e=>absurd e g1
 ·refine ⟨fun e=>hb (List.cons.inj e).1,?_⟩
  have e1: (UInt8.ofNat (ι.x (c%1000+0))==UInt8.ofNat n)=false:=beq_eq_false_iff_ne.2 hb
  simp only [Op.bytesLess,e1,Bool.false_and,Bool.or_false]
end
end Go.Proofs.YtdcioacjhpnihaaGreatDoor
namespace Go.Proofs.YtdcioacjhpnihaaGreatDoor
open Go
noncomputable section
def kEq (a:Array Value) (b:ByteArray):Option Bool:=match kcode a.toList,litN b.data.toList with
 |some _,some _=>some false
 |_,_=>eqL a.toList (byteCells b)
def sEq (c:Nat) (b:ByteArray):Option Bool:=if c<1000000 then (match b.data.toList with
 | [] =>some false
 | [x] =>if x.toNat=97∨x.toNat=98 then some false else none
 |_=>none) else none
def symEq:Value→Value→Option Bool
 | .func (.method _) a _, .func (.method _) b _=>eqL a.toList b.toList
 | .func (.method _) a _, .string b=>kEq a b
 | .string b, .func (.method _) a _=>kEq a b
 | .float .f64 a, .float .f64 b=>if a=b∧a<1000000 then some true else none
 | .float .f64 c, .string b=>sEq c b
 | .string b, .float .f64 c=>sEq c b
 |_,_=>none
def kLt (a:Array Value) (b:ByteArray):Option Bool:=match a.toList,b.data.toList with
 |_::_, [] =>some false
 |l,r=>match kcode l,litN r with
  |some c,some n=>ordN (c/1000%8) n
  |_,_=>none
def sLt (c:Nat) (b:ByteArray):Option Bool:=if c<1000000 then (match b.data.toList with
 | [] =>some false
 | [x] =>ordN (c/1000%8) x.toNat
 |_=>none) else none
def notO:Option Bool→Option Bool
 |some b=>some (!b)
 |none=>none
def symLt:Value→Value→Option Bool
 | .func (.method _) a _, .string b=>kLt a b
 | .string b, .func (.method _) a _=>notO (kLt a b)
 | .func (.method _) a _, .func (.method _) b _=>match eqL a.toList b.toList with
  |some true=>some false
  |_=>none
 | .float .f64 c, .string b=>sLt c b
 | .string b, .float .f64 c=>notO (sLt c b)
 | .float .f64 a, .float .f64 b=>if a=b∧a<1000000 then some false else none
 |_,_=>none
section
variable {ι:Emb}
theorem byteCells_bs (b:ByteArray):byteCells b=b.data.toList.map bytV:=rfl
theorem notO_ok {o:Option Bool} {e:Bool} (h:notO o=some e):o=some (!e):=by
 unfold notO at h
 split at h
 ·cases h;rw [Bool.not_not]
 ·cases h
theorem kEq_ok {a:Array Value} {b:ByteArray} {bs:List UInt8} {e:Bool} (h:kEq a b=some e) (hv:VRl ι a.toList (bs.map bytV)):decide (bs=b.data.toList)=e:=by
 unfold kEq at h
 split at h
 ·rename_i c n hc hn
  cases h
  obtain ⟨hf,rfl⟩:=kcode_ok hc hv
  obtain ⟨h1,h2⟩:=litN_ok hn
  rw [h2]
  exact decide_eq_false (key_lt hf h1).1
 ·refine eqL_ok h hv ?_
  rw [byteCells_bs]
  exact VRl.refl1 ι fun v hv=>by
   obtain ⟨_,_,rfl⟩:=List.mem_map.1 hv
   rfl
theorem kLt_ok {a:Array Value} {b:ByteArray} {bs:List UInt8} {e:Bool} (h:kLt a b=some e) (hv:VRl ι a.toList (bs.map bytV)):bs≠b.data.toList∧Op.bytesLess bs b.data.toList=e:=by
 unfold kLt at h
 split at h
 ·rename_i x l e1 e2
  cases h
  rw [e2]
  have h1:=hv.1
  rw [e1,List.length_map] at h1
  refine ⟨fun q=> ?_,?_⟩
  ·rw [q] at h1
   cases h1
  ·cases bs<;>rfl
 ·split at h
  ·rename_i c n hc hn
   obtain ⟨hf,rfl⟩:=kcode_ok hc hv
   obtain ⟨h1,h2⟩:=litN_ok hn
   rw [h2]
   obtain ⟨h3,h4⟩:=key_lt hf h1
   exact ⟨h3,h4.trans (hf.lt _ _ h)⟩
  ·cases h
theorem symN_ne {c:Nat} (hf:Fact ι c):symN ι c≠ [] :=fun e=>by
 have:=symN_len hf
 rw [e] at this
 have:=hf.len
 simp at*
 omega
theorem sEq_ok {c:Nat} {b s:ByteArray} {e:Bool} (h:sEq c b=some e) (hv:VR ι (.float .f64 c) (.string s)):decide (s.data.toList=b.data.toList)=e:=by
 unfold sEq at h
 split at h
 ·rename_i hc
  cases hv with
  |any=>omega
  |sym hf=>
   split at h
   ·rename_i hb
    cases h
    rw [hb]
    exact decide_eq_false (symN_ne hf)
   ·rename_i x hb
    split at h
    ·rename_i hx
     cases h
     rw [hb]
     refine decide_eq_false fun q=>hf.ne x.toNat hx ?_
     rw [show UInt8.ofNat x.toNat=x from UInt8.ofNat_toNat]
     exact q
    ·cases h
   ·cases h
 ·cases h
theorem sLt_ok {c:Nat} {b s:ByteArray} {e:Bool} (h:sLt c b=some e) (hv:VR ι (.float .f64 c) (.string s)):s.data.toList≠b.data.toList∧Op.bytesLess s.data.toList b.data.toList=e:=by
 unfold sLt at h
 split at h
 ·rename_i hc
  cases hv with
  |any=>omega
  |sym hf=>
   split at h
   ·rename_i hb
    cases h
    rw [hb]
    refine ⟨symN_ne hf,?_⟩
    cases symN ι c<;>rfl
   ·rename_i x hb
    rw [hb]
    have hx:=ordN_97 h
    have e1:UInt8.ofNat x.toNat=x:=UInt8.ofNat_toNat
    refine ⟨fun q=>hf.ne x.toNat hx ?_,?_⟩
    ·rw [e1];exact q
    ·have:=hf.lt _ _ h
     rw [e1] at this
     exact this
   ·cases h
 ·cases h
def strs (x y:Value) (a b:ByteArray):Prop:=x= .string a∧y= .string b
theorem sym_str {c:Nat} {v:Value} (h:VR ι (.float .f64 c) v): ∃s,v= .string s:=by
 cases h with
 |sym=>exact ⟨_,rfl⟩
 |any=>exact ⟨_,rfl⟩
theorem sym_same {c:Nat} {s t:ByteArray} (hc:c<1000000) (h:VR ι (.float .f64 c) (.string s)) (k:VR ι (.float .f64 c) (.string t)):s=t:=by
 cases h with
 |any=>omega
 |sym=>cases k with
  |any=>omega
  |sym=>rfl
theorem symEq_ok {u v u' v':Value} {e:Bool} (h:symEq u v=some e) (hu:VR ι u u') (hv:VR ι v v'): ∃a b,strs u' v' a b∧decide (a.data.toList=b.data.toList)=e:=by
 unfold symEq at h
 split at h
 ·obtain ⟨rfl,rfl,bs,rfl,h1⟩:=mixL_inv (c:= #[]) hu
  obtain ⟨rfl,rfl,ds,rfl,h2⟩:=mixL_inv (c:= #[]) hv
  exact ⟨_,_,⟨rfl,rfl⟩,eqL_ok h h1 h2⟩
 ·obtain ⟨rfl,rfl,bs,rfl,h1⟩:=mixL_inv (c:= #[]) hu
  cases hv
  exact ⟨_,_,⟨rfl,rfl⟩,kEq_ok h h1⟩
 ·obtain ⟨rfl,rfl,bs,rfl,h1⟩:=mixL_inv (c:= #[]) hv
  cases hu
  refine ⟨_,_,⟨rfl,rfl⟩,?_⟩
  rw [←kEq_ok h h1]
  exact decide_eq_decide.2 eq_comm
 ·split at h
  ·rename_i hq
   cases h
   obtain ⟨rfl,hc⟩:=hq
   obtain ⟨s,rfl⟩:=sym_str hu
   obtain ⟨t,rfl⟩:=sym_str hv
   refine ⟨_,_,⟨rfl,rfl⟩,decide_eq_true ?_⟩
   rw [sym_same hc hu hv]
  ·cases h
 ·obtain ⟨s,rfl⟩:=sym_str hu
  cases hv
  exact ⟨_,_,⟨rfl,rfl⟩,sEq_ok h hu⟩
 ·obtain ⟨s,rfl⟩:=sym_str hv
  cases hu
  refine ⟨_,_,⟨rfl,rfl⟩,?_⟩
  rw [←sEq_ok h hv]
  exact decide_eq_decide.2 eq_comm
 ·cases h
theorem symLt_ok {u v u' v':Value} {e:Bool} (h:symLt u v=some e) (hu:VR ι u u') (hv:VR ι v v'): ∃a b,strs u' v' a b∧Op.bytesLess a.data.toList b.data.toList=e:=by
 unfold symLt at h
 split at h
 ·obtain ⟨rfl,rfl,bs,rfl,h1⟩:=mixL_inv (c:= #[]) hu
  cases hv
  exact ⟨_,_,⟨rfl,rfl⟩,(kLt_ok h h1).2⟩
 ·obtain ⟨rfl,rfl,bs,rfl,h1⟩:=mixL_inv (c:= #[]) hv
  cases hu
  obtain ⟨h2,h3⟩:=kLt_ok (notO_ok h) h1
  refine ⟨_,_,⟨rfl,rfl⟩,?_⟩
  show Op.bytesLess _ bs=e
  rw [bl_asymm h2,h3,Bool.not_not]
 ·obtain ⟨rfl,rfl,bs,rfl,h1⟩:=mixL_inv (c:= #[]) hu
  obtain ⟨rfl,rfl,ds,rfl,h2⟩:=mixL_inv (c:= #[]) hv
  split at h
  ·rename_i hq
   cases h
   have:=of_decide_eq_true (eqL_ok hq h1 h2)
   subst this
   exact ⟨_,_,⟨rfl,rfl⟩,bl_irrefl _⟩
  ·cases h
 ·obtain ⟨s,rfl⟩:=sym_str hu
  cases hv
  exact ⟨_,_,⟨rfl,rfl⟩,(sLt_ok h hu).2⟩
 ·obtain ⟨s,rfl⟩:=sym_str hv
  cases hu
  obtain ⟨h2,h3⟩:=sLt_ok (notO_ok h) hv
  refine ⟨_,_,⟨rfl,rfl⟩,?_⟩
  rw [bl_asymm h2,h3,Bool.not_not]
 ·split at h
  ·rename_i hq
   cases h
   obtain ⟨rfl,hc⟩:=hq
   obtain ⟨s,rfl⟩:=sym_str hu
   obtain ⟨t,rfl⟩:=sym_str hv
   refine ⟨_,_,⟨rfl,rfl⟩,?_⟩
   rw [sym_same hc hu hv]
   exact bl_irrefl _
  ·cases h
 ·cases h
def boolO:Option Bool→Option Value
 |some b=>some (.bool b)
 |none=>none
def fsym:BinOp→Value→Value→Option Value
 | .eql, .float .f32 m,y=>boolO (eqB (.float .f32 m) y)
 | .neq, .float .f32 m,y=>boolO (notO (eqB (.float .f32 m) y))
 | .eql,u,v=>boolO (symEq u v)
 | .neq,u,v=>boolO (notO (symEq u v))
 | .lss,u,v=>boolO (symLt u v)
 | .geq,u,v=>boolO (notO (symLt u v))
 | .leq,u,v=>match symEq u v,symLt u v with
  |some e,some l=>some (.bool (l ||e))
  |_,_=>none
 | .gtr, .chan (some k), .int .i64 (.ofNat n)=>if n=100 then (if k=3 then some (.bool false) else if k=4 then some (.bool true) else none) else none
 | .gtr,u,v=>match symEq u v,symLt u v with
  |some e,some l=>some (.bool (!(l ||e)))
  |_,_=>none
 | .shr, .chan (some k), .int _ (.ofNat n)=>if k=2 then (if 32≤n then some (.int .u64 0) else some (.chan (some 2))) else none
 |_,_,_=>none
def runB2 (P:Program) (op:BinOp) (t:TypeId) (x y:Operand) (u v:Value) (w:World) (r:Value):Prop:=((do eqGuard op t x y u v;binOp op t u v):Sem Value).run P w= .ok r w
theorem str_eq (a b:ByteArray): (a.toList==b.toList)=decide (a.data.toList=b.data.toList):=by
 rw [ByteArray.toList_eq,ByteArray.toList_eq]
 rw [Bool.eq_iff_iff,beq_iff_eq,decide_eq_true_iff]
theorem str_run {P:Program} {op:BinOp} {t:TypeId} {x y:Operand} {a b:ByteArray} {w:World} {e l:Bool} {r:Bool}
  (h:op= .eql∧decide (a.data.toList=b.data.toList)=r∨op= .neq∧decide (a.data.toList=b.data.toList)= !r∨op= .lss∧Op.bytesLess a.data.toList b.data.toList=r∨op= .geq∧Op.bytesLess a.data.toList b.data.toList= !r∨
   (op= .leq∧(l ||e)=r∨op= .gtr∧(l ||e)= !r)∧decide (a.data.toList=b.data.toList)=e∧Op.bytesLess a.data.toList b.data.toList=l):runB2 P op t x y (.string a) (.string b) w (.bool r):=by
 unfold runB2
 have hl:Op.bytesLess a.toList b.toList=Op.bytesLess a.data.toList b.data.toList:=by rw [ByteArray.toList_eq,ByteArray.toList_eq]
 rcases h with ⟨rfl,h⟩| ⟨rfl,h⟩| ⟨rfl,h⟩| ⟨rfl,h⟩| ⟨⟨rfl,h⟩| ⟨rfl,h⟩,h1,h2⟩
 ·simp only [eqGuard,binOp,Op.stringOp,str_eq,h];rfl
 ·simp only [eqGuard,binOp,Op.stringOp,str_eq,h,Bool.not_not];rfl
 ·simp only [eqGuard,binOp,Op.stringOp,hl,h];rfl
 ·simp only [eqGuard,binOp,Op.stringOp,hl,h,Bool.not_not];rfl
 ·simp only [eqGuard,binOp,Op.stringOp,hl,str_eq,h1,h2,h];rfl
 ·simp only [eqGuard,binOp,Op.stringOp,hl,str_eq,h1,h2,h,Bool.not_not];rfl
theorem boolO_ok {o:Option Bool} {v:Value} (h:boolO o=some v): ∃b,o=some b∧v= .bool b:=by
 unfold boolO at h
 split at h
 ·cases h;exact ⟨_,rfl,rfl⟩
 ·cases h
theorem p2 (n:Nat): (0:Int) <2^n:=by
 have:=Nat.pow_pos (n:=n) (show 0<2 by decide)
 exact_mod_cast this
theorem fsym_ok {P:Program} {op:BinOp} {u v u' v' r:Value} (h:fsym op u v=some r) (hu:VR ι u u') (hv:VR ι v v') (t:TypeId) (x y:Operand) (w:World): ∃r',runB2 P op t x y u' v' w r'∧VR ι r r':=by
 unfold fsym at h
 split at h
 ·obtain ⟨b,h0,rfl⟩:=boolO_ok h
  obtain ⟨m,n,rfl,rfl,e⟩:=eqB_ok h0 hu hv
  refine ⟨.bool b,?_, .bool b⟩
  subst e
  simp [runB2,eqGuard,binOp,Op.intCmp]
  rfl
 ·obtain ⟨b,h0,rfl⟩:=boolO_ok h
  obtain ⟨m,n,rfl,rfl,e⟩:=eqB_ok (notO_ok h0) hu hv
  refine ⟨.bool b,?_, .bool b⟩
  have:b= !decide (m=n):=by rw [e,Bool.not_not]
  subst this
  simp [runB2,eqGuard,binOp,Op.intCmp]
  rfl
 ·obtain ⟨b,h0,rfl⟩:=boolO_ok h
  obtain ⟨a,c,⟨rfl,rfl⟩,e⟩:=symEq_ok h0 hu hv
  exact ⟨.bool b,str_run (e:=b) (l:=b) (.inl ⟨rfl,e⟩), .bool b⟩
 ·obtain ⟨b,h0,rfl⟩:=boolO_ok h
  obtain ⟨a,c,⟨rfl,rfl⟩,e⟩:=symEq_ok (notO_ok h0) hu hv
  exact ⟨.bool b,str_run (e:=b) (l:=b) (.inr (.inl ⟨rfl,e⟩)), .bool b⟩
 ·obtain ⟨b,h0,rfl⟩:=boolO_ok h
  obtain ⟨a,c,⟨rfl,rfl⟩,e⟩:=symLt_ok h0 hu hv
  exact ⟨.bool b,str_run (e:=b) (l:=b) (.inr (.inr (.inl ⟨rfl,e⟩))), .bool b⟩
 ·obtain ⟨b,h0,rfl⟩:=boolO_ok h
  obtain ⟨a,c,⟨rfl,rfl⟩,e⟩:=symLt_ok (notO_ok h0) hu hv
  exact ⟨.bool b,str_run (e:=b) (l:=b) (.inr (.inr (.inr (.inl ⟨rfl,e⟩)))), .bool b⟩
 ·split at h
  ·rename_i e l h1 h2
   cases h
   obtain ⟨a,c,⟨rfl,rfl⟩,e1⟩:=symEq_ok h1 hu hv
   obtain ⟨a',c',⟨q1,q2⟩,e2⟩:=symLt_ok h2 hu hv
   cases q1
   cases q2
   exact ⟨.bool _,str_run (e:=e) (l:=l) (.inr (.inr (.inr (.inr ⟨.inl ⟨rfl,rfl⟩,e1,e2⟩)))), .bool _⟩
  ·cases h
 ·split at h
  ·rename_i hn
   subst hn
   cases hv
   split at h
   ·rename_i hk
    subst hk
    cases h
    cases hu with
    |unk _ m hm=>
     obtain ⟨h1,h2⟩:0≤m∧m≤100:=hm
     refine ⟨.bool false,?_, .bool _⟩
     have:decide (m>100)=false:=decide_eq_false (by omega)
     show ((do eqGuard .gtr t x y (.int .i64 m) (.int .i64 100);binOp .gtr t (.int .i64 m) (.int .i64 100)):Sem Value).run P w=_
     rw [eqGuard_at_int,binOp_gtr,this]
     rfl
   ·split at h
    ·rename_i hk
     subst hk
     cases h
     cases hu with
     |unk _ m hm=>
      have hm:100<m:=hm
      refine ⟨.bool true,?_, .bool _⟩
      have:decide (m>100)=true:=decide_eq_true (by omega)
      show ((do eqGuard .gtr t x y (.int .i64 m) (.int .i64 100);binOp .gtr t (.int .i64 m) (.int .i64 100)):Sem Value).run P w=_
      rw [eqGuard_at_int,binOp_gtr,this]
      rfl
    ·cases h
  ·cases h
 ·split at h
  ·rename_i e l h1 h2
   cases h
   obtain ⟨a,c,⟨rfl,rfl⟩,e1⟩:=symEq_ok h1 hu hv
   obtain ⟨a',c',⟨q1,q2⟩,e2⟩:=symLt_ok h2 hu hv
   cases q1
   cases q2
   exact ⟨.bool _,str_run (e:=e) (l:=l) (.inr (.inr (.inr (.inr ⟨.inr ⟨rfl,by rw [Bool.not_not]⟩,e1,e2⟩)))), .bool _⟩
  ·cases h
 ·split at h
  ·rename_i hk
   subst hk
   cases hv
   rename_i kd n
   cases hu with
   |unk _ m hm=>
    obtain ⟨h1,h2⟩:0≤m∧m<4294967296:=hm
    have hrun:runB2 P .shr t x y (.int .u64 m) (.int kd (.ofNat n)) w (.int .u64 (m.fdiv (2^ (min n 64)))):=by
     unfold runB2
     rw [eqGuard_at_int,binOp_shr]
     rfl
    rw [Int.fdiv_eq_ediv_of_nonneg _ (Int.le_of_lt (p2 _))] at hrun
    split at h
    ·rename_i hn
     cases h
     have e:m/2^ (min n 64)=0:=by
      refine Int.ediv_eq_zero_of_lt h1 (Int.lt_of_lt_of_le h2 ?_)
      have: (2:Int)^32≤2^ (min n 64):=by
       have:=Nat.pow_le_pow_right (n:=2) (by decide) (show 32≤min n 64 by omega)
       exact_mod_cast this
      exact this
     rw [e] at hrun
     exact ⟨_,hrun, .int _ _⟩
    ·cases h
     refine ⟨_,hrun, .unk 2 _ ⟨Int.ediv_nonneg h1 (Int.le_of_lt (p2 _)),Int.lt_of_le_of_lt (Int.ediv_le_self _ h1) h2⟩⟩
  ·cases h
 ·cases h
def aconvU (C:Cfg) (src dst:TypeId) (x:Value):Option Value:=match C.und src,C.und dst,x with
 |some _,some (.int .u64), .chan (some 1)=>some (.chan (some 2))
 |some _,some (.int .u8), .chan (some 2)=>some (.chan (some 0))
 |_,_,_=>none
theorem aconvU_ok {C:Cfg} {P:Program} (hC:C.ok P) {src dst:TypeId} {x x' v:Value} (h:aconvU C src dst x=some v) (hx:VR ι x x') (w:World): ∃v',(convert src dst x').run P w= .ok v' w∧VR ι v v':=by
 unfold aconvU at h
 split at h
 ·rename_i d hs hd
  cases h
  cases hx with
  |unk _ m hm=>
   obtain ⟨h1,h2⟩:0≤m∧m<4294967296:=hm
   refine ⟨.int .u64 m,?_, .unk 2 m ⟨h1,h2⟩⟩
   have e:IntKind.wrap .u64 m=m:=by unfold IntKind.wrap;simp [IntKind.bits,IntKind.signed];omega
   simp only [convert,Sem.run_bind,Cfg.run_und hC hs,Cfg.run_und hC hd,Result.andThen]
   cases d<;>simp only [unkK,Conv.intToInt,e] <;>rfl
 ·rename_i d hs hd
  cases h
  cases hx with
  |unk _ m hm=>
   refine ⟨.int .u8 (IntKind.wrap .u8 m),?_, .unk 0 _ ?_⟩
   ·simp only [convert,Sem.run_bind,Cfg.run_und hC hs,Cfg.run_und hC hd,Result.andThen]
    cases d<;>simp only [unkK,Conv.intToInt] <;>rfl
   ·show 0≤IntKind.wrap .u8 m∧IntKind.wrap .u8 m<256
    unfold IntKind.wrap
    simp [IntKind.bits,IntKind.signed]
    omega
 ·cases h
def fbin2 (C:Cfg) (t:TypeId) (op:BinOp) (u v:Value):Option Value:=match fsym op u v with
 |some r=>some r
 |none=>match op with
  | .eql=>boolO (anil C t u v)
  | .neq=>boolO (notO (anil C t u v))
  |_=>none
theorem fsym_int {op:BinOp} {k l:IntKind} {i j:Int}:fsym op (.int k i) (.int l j)=none:=by cases op<;>rfl
theorem fbin2_int {C:Cfg} {t:TypeId} {op:BinOp} {k l:IntKind} {i j:Int} (h:anil C t (.int k i) (.int l j)=none):fbin2 C t op (.int k i) (.int l j)=none:=by
 unfold fbin2
 rw [fsym_int,h]
 cases op<;>rfl
theorem fsym_str {op:BinOp} {a b:ByteArray}:fsym op (.string a) (.string b)=none:=by cases op<;>rfl
theorem fsym_nil {C:Cfg} {t:TypeId} {u v:Value} {b:Bool} (h:anil C t u v=some b):fsym .eql u v=none∧fsym .neq u v=none:=by
 unfold anil at h
 split at h<;>first | (cases h;done)|exact ⟨rfl,rfl⟩| (refine ⟨?_,?_⟩ <;> (unfold fsym;split<;>simp_all [boolO,notO,symEq]))
def aslice2 (C:Cfg) (t:TypeId) (x:Value) (lo hi mx:Option Value):Option Value:=match aslice C t x lo hi mx with
 |some r=>some r
 |none=>asliceM C t x lo hi mx
theorem aslice2_ok {C:Cfg} {P:Program} (hC:C.ok P) {t:TypeId} {x x' v:Value} {lo hi mx lo' hi' mx':Option Value} (h:aslice2 C t x lo hi mx=some v) (hx:VR ι x x') (hl:optVR ι lo lo') (hh:optVR ι hi hi') (hm:optVR ι mx mx') (w:World):
  ∃v',(Instr.sliceAt t x' lo' hi' mx').run P w= .ok v' w∧VR ι v v':=by
 unfold aslice2 at h
 split at h
 ·rename_i h1
  cases h
  exact aslice_ok hC h1 hx hl hh hm w
 ·exact asliceM_ok hC h hx hl hh hm w
def aindexM (C:Cfg) (t:TypeId) (x ix:Value):Option Value:=match C.und t,x,ix with
 |some .string, .func (.method _) cs _, .int _ (.ofNat i)=>cs.toList[i]?
 |_,_,_=>none
def aindex2 (C:Cfg) (t:TypeId) (x ix:Value):Option Value:=match aindexV C t x ix with
 |some r=>some r
 |none=>aindexM C t x ix
theorem aindex2_ok {C:Cfg} {P:Program} (hC:C.ok P) {t:TypeId} {x x' ix ix' v:Value} (h:aindex2 C t x ix=some v) (hx:VR ι x x') (hi:VR ι ix ix') (w:World): ∃v',(Instr.index t x' ix').run P w= .ok v' w∧VR ι v v':=by
 unfold aindex2 at h
 split at h
 ·rename_i h1
  cases h
  exact aindexV_ok hC h1 hx hi w
 ·unfold aindexM at h
  split at h
  ·rename_i kd i hd _
   obtain ⟨rfl,rfl,bs,rfl,hl0⟩:=mixL_inv (c:= #[]) hx
   cases hi
   obtain ⟨h1,e⟩:=List.getElem?_eq_some_iff.1 h
   have h2:i<bs.length:=by have:=hl0.1;rw [List.length_map] at this;omega
   have hv:=hl0.2 i v (bytV bs[i]) h (by rw [List.getElem?_map,List.getElem?_eq_getElem h2];rfl)
   refine ⟨bytV bs[i],?_,hv⟩
   have hb: (bsB bs)[i]? =some bs[i] :=by
    rw [getElem?_pos (bsB bs) i (show i< (bsB bs).size from h2)]
    rfl
   have h0: (0:Int)≤Int.ofNat i:=Int.natCast_nonneg i
   simp only [Instr.index,asIntOf,Sem.run_bind,Sem.run_pure,Result.andThen,Cfg.run_und hC hd,if_pos h0]
   rw [show (Int.ofNat i).toNat=i from rfl,hb]
   rfl
  ·cases h
def abytes2 (C:Cfg) (s:AS) (src dst:TypeId) (x:Value):Option Value:=match abytes C s src dst x with
 |some r=>some r
 |none=>match abytesM C s src dst x with
  |some r=>some r
  |none=>aconvU C src dst x
theorem abytes2_ok {C:Cfg} {P:Program} (hC:C.ok P) {s:AS} {w:World} (hr:Rep P C.G ι s.mem w) {src dst:TypeId} {x x' v:Value} (h:abytes2 C s src dst x=some v) (hx:VR ι x x'): ∃v',(convert src dst x').run P w= .ok v' w∧VR ι v v':=by
 unfold abytes2 at h
 split at h
 ·rename_i h1
  cases h
  obtain ⟨h1,h2⟩:=abytes_ok hC hr h1 hx
  exact ⟨_,h1,VR.flat1 ι h2⟩
 ·split at h
  ·rename_i h1
   cases h
   exact abytesM_ok hC hr h1 hx
  ·exact aconvU_ok hC h hx w
def astring2 (C:Cfg) (s:AS) (src dst:TypeId) (x:Value):Option (Value × AS):=match astring C s src dst x with
 |some r=>some r
 |none=>astringM C s src dst x
theorem astring2_ok {C:Cfg} {P:Program} (hC:C.ok P) {s s':AS} {w:World} (hr:Rep P C.G ι s.mem w) {src dst:TypeId} {x x' v:Value} (h:astring2 C s src dst x=some (v,s')) (hx:VR ι x x'):
  ∃ι' w' v',(convert src dst x').run P w= .ok v' w'∧Tr P C.G ι s.mem w ι' s'.mem w'∧VR ι' v v':=by
 unfold astring2 at h
 split at h
 ·rename_i h1
  cases h
  exact astring_ok hC hr h1 hx
 ·exact astringM_ok hC hr h hx
end
end
end Go.Proofs.YtdcioacjhpnihaaGreatDoor
