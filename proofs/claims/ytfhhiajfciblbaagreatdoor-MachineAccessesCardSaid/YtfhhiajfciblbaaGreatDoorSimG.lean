/- Laws for the row. No condition. -/
import Derived.WalkKit
import Derived.Orders
import Derived.LoopN
import Derived.Laws.AppendOwnNone
import Derived.Laws.MakeOwn
import Derived.ChangeKeysEq
namespace Go.Sm
variable {w w':World} {t t' ty:TypeId} {i by_ n m ci:Nat} {z:Value} {y:Operand} {a b:Int} {K κ K' Ka K2:List Nat} {cs xs vs cs':List Value} {d:TypeDesc} {l:List Oper} {S S':Nat→Prop} {listed:Array Bool} {α:Type} {fs:Array Field} {parts:Array (Nat×Operand)} {cl:List (List Nat)} {g:Nat→Nat} {fd:Field} {vals:List (Nat×List Value)}
abbrev akY:=@Array.ext'
abbrev aft:=@Array.getD_eq_getD_getElem?
abbrev YD:=@Array.getElem?_eq_some_iff
abbrev af4:=@Array.getElem?_modify
abbrev aiL:=@Array.getElem?_replicate
abbrev af2:=@Array.getElem?_setIfInBounds
abbrev aik:=@Array.mapM_eq_mapM_toList
abbrev aaH:=@Bool.and_eq_false_iff
abbrev Wp:=@Bool.and_eq_true
abbrev akX:=@Bool.and_false
abbrev acw:=@Bool.and_self
abbrev afx:=@Bool.and_true
abbrev agJ:=@Bool.eq_iff_iff
abbrev agP:=@Bool.false_and
abbrev Ys:=@Bool.false_eq_true
abbrev aeF:=@Bool.false_or
abbrev YW:=@Bool.not_eq_true'
abbrev Xo:=@Bool.not_false
abbrev XO:=@Bool.not_true
abbrev Zp:=@Bool.or_eq_false_iff
abbrev Ze:=@Bool.or_eq_true
abbrev ag1:=@Bool.or_false
abbrev agH:=@Bool.or_true
abbrev agB:=@Bool.true_and
abbrev aeq:=@Int.le_refl
abbrev agu:=@Int.le_trans
abbrev aer:=@Int.lt_irrefl
abbrev aaU:=@Int.lt_or_le
abbrev afy:=@Int.tmod_eq_emod_of_nonneg
abbrev W4:=@Int.toNat_natCast
abbrev agh:=@Int.toNat_of_nonneg
abbrev ZX:=@Int.zero_add
abbrev ae3:=@List.Perm.refl
abbrev aas:=@List.all_cons
abbrev W3:=@List.all_eq_true
abbrev ag7:=@List.any_cons
abbrev afW:=@List.any_eq_false
abbrev Z0:=@List.any_eq_true
abbrev Yi:=@List.append_assoc
abbrev XE:=@List.append_nil
abbrev afv:=@List.cons.injEq
abbrev Zr:=@List.cons_append
abbrev agc:=@List.dropLast_concat
abbrev YB:=@List.drop_append
abbrev aev:=@List.drop_drop
abbrev agp:=@List.drop_eq_getElem_cons
abbrev X2:=@List.drop_eq_nil_of_le
abbrev aeQ:=@List.drop_length
abbrev aeK:=@List.drop_succ_cons
abbrev aeR:=@List.drop_take
abbrev Z3:=@List.drop_zero
abbrev Z1:=@List.eq_nil_of_length_eq_zero
abbrev ajk:=@List.eq_of_mem_replicate
abbrev aac:=@List.ext_getElem?
abbrev aeG:=@List.filter_cons_of_neg
abbrev aaS:=@List.filter_cons_of_pos
abbrev ahS:=@List.foldl_append
abbrev agi:=@List.foldl_cons
abbrev XF:=@List.getD_eq_getElem?_getD
abbrev agE:=@List.getElem?_append
abbrev aa5:=@List.getElem?_append_left
abbrev aaW:=@List.getElem?_append_right
abbrev ajp:=@List.getElem?_cons_succ
abbrev aaR:=@List.getElem?_cons_zero
abbrev ZT:=@List.getElem?_drop
abbrev YK:=@List.getElem?_eq_getElem
abbrev XW:=@List.getElem?_eq_some_iff
abbrev aa1:=@List.getElem?_map
abbrev aeL:=@List.getElem?_range
abbrev Zd:=@List.getElem?_set_ne
abbrev Yc:=@List.getElem?_set_self
abbrev aew:=@List.getElem?_take
abbrev agL:=@List.getElem_of_mem
abbrev agm:=@List.headD_cons
abbrev Wu:=@List.length_append
abbrev XM:=@List.length_cons
abbrev aaT:=@List.length_drop
abbrev ade:=@List.length_map
abbrev agw:=@List.length_range
abbrev ZO:=@List.length_replicate
abbrev Y4:=@List.length_set
abbrev Wr:=@List.length_singleton
abbrev Xz:=@List.length_take
abbrev ajV:=@List.mapM_cons
abbrev Zy:=@List.map_append
abbrev aa3:=@List.map_congr_left
abbrev XH:=@List.map_cons
abbrev agS:=@List.map_id
abbrev afG:=@List.map_map
abbrev aaz:=@List.map_nil
abbrev Xd:=@List.mem_append
abbrev XP:=@List.mem_append_left
abbrev X5:=@List.mem_append_right
abbrev Xb:=@List.mem_cons
abbrev Wq:=@List.mem_cons_of_mem
abbrev W7:=@List.mem_cons_self
abbrev ZP:=@List.mem_filter
abbrev ai9:=@List.mem_flatMap
abbrev aan:=@List.mem_iff_getElem
abbrev agC:=@List.mem_iff_getElem?
abbrev W6:=@List.mem_map
abbrev af9:=@List.mem_of_getElem?
abbrev agF:=@List.mem_of_mem_take
abbrev aao:=@List.mem_or_eq_of_mem_set
abbrev aaB:=@List.mem_range
abbrev Wz:=@List.mem_singleton
abbrev Yv:=@List.nil_append
abbrev agK:=@List.nodup_cons
abbrev afD:=@List.not_mem_nil
abbrev YU:=@List.pairwise_cons
abbrev aju:=@List.pairwise_singleton
abbrev adE:=@List.replicate_succ
abbrev afz:=@List.replicate_succ'
abbrev af7:=@List.set_set
abbrev akZ:=@List.take_add
abbrev ahQ:=@List.take_add_one
abbrev Z9:=@List.take_append
abbrev abo:=@List.take_append_drop
abbrev agd:=@List.take_length
abbrev Yr:=@List.take_of_length_le
abbrev afN:=@List.take_succ_cons
abbrev acV:=@List.take_take
abbrev aeO:=@List.take_zero
abbrev age:=@Nat.add_assoc
abbrev aaO:=@Nat.add_mul
abbrev Yk:=@Nat.add_zero
abbrev Yb:=@Nat.ble_eq_true_of_le
abbrev Wo:=@Nat.eq_of_beq_eq_true
abbrev agU:=@Nat.eq_zero_or_pos
abbrev ajl:=@Nat.le_mul_of_pos_right
abbrev Wt:=@Nat.le_of_ble_eq_true
abbrev Xw:=@Nat.le_refl
abbrev agt:=@Nat.le_trans
abbrev afV:=@Nat.lt_or_eq_of_le
abbrev XJ:=@Nat.lt_or_ge
abbrev ahb:=@Nat.lt_trichotomy
abbrev ZR:=@Nat.min_eq_left
abbrev Yq:=@Nat.mul_le_mul_right
abbrev abQ:=@Nat.mul_one
abbrev afs:=@Nat.ne_of_beq_eq_false
abbrev agz:=@Nat.one_mul
abbrev ai7:=@Nat.sub_self
abbrev afu:=@Nat.zero_add
abbrev afB:=@Nat.zero_le
abbrev agN:=@Ne.symm
abbrev Zb:=@Option.bind_eq_some_iff
abbrev f7:=@Option.bind_some
abbrev aet:=@Option.getD_some
abbrev aez:=@Option.isSome_iff_exists
abbrev YX:=@Option.map_eq_some_iff
abbrev afO:=@Option.map_some
abbrev afR:=@Option.some.inj
abbrev Wn:=@Option.some.injEq
abbrev W5:=@Prod.mk.injEq
abbrev ai8:=@and_self
abbrev ai3:=@and_true
abbrev XT:=@beq_eq_false_iff_ne
abbrev abd:=@beq_iff_eq
abbrev W9:=@beq_self_eq_true
abbrev Zh:=@bne_self_eq_false
abbrev no:=@cond_false
abbrev f9:=@cond_true
abbrev XZ:=@congrArg
abbrev ajI:=@decide_eq_false
abbrev ZL:=@decide_eq_false_iff_not
abbrev aeT:=@decide_eq_true
abbrev Z4:=@decide_eq_true_eq
abbrev agV:=@decide_eq_true_iff
abbrev Zw:=@decide_false
abbrev ZU:=@decide_true
abbrev XB:=@if_false
abbrev Xa:=@if_true
abbrev agx:=@not_false_eq_true
abbrev Yd:=@of_decide_eq_true
abbrev aiC:=@or_false
abbrev ai6:=@true_and
structure Hd where
 a:Option Addr
 n:Nat
 cap:Nat
abbrev Hd.val (h:Hd):Value:=.slice h.a h.n h.cap
def Hd.blk (h:Hd):Nat:=match h.a with
 | some ⟨b,_,_⟩=>b
 | none=>0
inductive Nd
 | mk (kind:Int) (text:List UInt8) (n:Int) (kids:List Nd)
def Nd.tup:Nd→Int×List UInt8×Int×List Nd
 | .mk k t n l=>(k,t,n,l)
def Nd.of (v:Int×List UInt8×Int×List Nd):Nd:=.mk v.1 v.2.1 v.2.2.1 v.2.2.2
def Nd.fill (x:Nd) (h:Hd):List Value:=[.int .i64 x.tup.1, .string ⟨x.tup.2.1.toArray⟩, .int .i64 x.tup.2.2.1,h.val]
def vL:List Nd→List Hd→List Value
 | x::xs,y::ys=>x.fill y++vL xs ys
 | _,_=>[]
inductive Ty:Type 1
 | one (α:Type) (f:α→Value) (h : ∀ x,(f x).oneCell' = true)
 | arr (n:Nat) (α:Type) (d:α) (f:α→Value) (h : ∀ x,(f x).oneCell' = true)
 | unit
 | pair (a b:Ty)
 | slice (t:Ty)
 | node
 | mp (k v:Ty)
abbrev Ty.den:Ty→Type
 | .one α _ _=>α
 | .arr _ α _ _ _=>List α
 | .unit=>Unit
 | .pair a b=>a.den×b.den
 | .slice t=>List t.den
 | .node=>Nd
 | .mp k v=>List (k.den×v.den)
abbrev Ty.sz:Ty→Nat
 | .one _ _ _=>1
 | .arr n _ _ _ _=>n
 | .unit=>0
 | .pair a b=>a.sz+b.sz
 | .slice _=>1
 | .node=>4
 | .mp _ _=>1
abbrev Ty.Refs:Ty→Type
 | .one _ _ _=>Unit
 | .arr _ _ _ _ _=>Unit
 | .unit=>Unit
 | .pair a b=>a.Refs×b.Refs
 | .slice _=>Hd
 | .node=>Hd
 | .mp _ _=>Hd
def Ty.fill:(t:Ty)→t.den→t.Refs→List Value
 | .one _ f _,x,_=>[f x]
 | .arr n _ d f _,x,_=>(List.range n).map fun i=>f (x.getD i d)
 | .unit,_,_=>[]
 | .pair a b,x,y=>a.fill x.1 y.1++b.fill x.2 y.2
 | .slice _,_,h=>[h.val]
 | .node,x,h=>x.fill h
 | .mp _ _,_,h=>[.map (some (Hd.blk h))]
theorem Ty.fill_length:(t:Ty)→(x:t.den)→(y:t.Refs)→(t.fill x y).length=t.sz
 | .one _ _ _,_,_=>rfl
 | .arr _ _ _ _ _,_,_=>by simp [Ty.fill,Ty.sz]
 | .unit,_,_=>rfl
 | .pair a b,x,y=>by simp [Ty.fill,Ty.sz,a.fill_length,b.fill_length]
 | .slice _,_,_=>rfl
 | .node,_,_=>rfl
 | .mp _ _,_,_=>rfl
def cp {α β:Type} (R:α→β→Prop):List α→List β→Prop
 | [],[]=>True
 | x::xs,y::ys=>R x y∧cp R xs ys
 | _,_=>False
def cellsOf (t:Ty):List t.den→List t.Refs→List Value
 | x::xs,y::ys=>t.fill x y++cellsOf t xs ys
 | _,_=>[]
def Sl (w:World) (S:Nat→Prop) (sz:Nat) (h:Hd) (n:Nat) (cells:List Value):Prop:=
 h.n=n∧n≤h.cap∧h.cap≤maxLen∧((True∧h.cap=0)∨∃ b off arr ty fz,h.a=some ⟨b,off,none⟩∧S b ∧
  w.heap[b]? = some (.cells arr ty fz)∧off+h.cap * sz≤arr.size∧(arr.toList.drop off).take (n * sz)=cells)
mutual
def rd (w:World) (S:Nat→Prop):Nd→Hd→Prop
 | .mk _ _ _ kids,h=>∃ ys:List Hd,lS w S kids ys∧Sl w S 4 h kids.length (vL kids ys)
def lS (w:World) (S:Nat→Prop):List Nd→List Hd→Prop
 | [],[]=>True
 | x::xs,y::ys=>rd w S x y∧lS w S xs ys
 | _,_=>False
end
def bT (w:World) (S:Nat→Prop):(t:Ty)→t.den→t.Refs→Prop
 | .one _ _ _,_,_=>True
 | .arr _ _ _ _ _,_,_=>True
 | .unit,_,_=>True
 | .pair a b,x,y=>bT w S a x.1 y.1∧bT w S b x.2 y.2
 | .slice t,xs,v=>∃ ys:List t.Refs,cp (bT w S t) xs ys∧Sl w S t.sz v xs.length (cellsOf t xs ys)
 | .node,x,h=>rd w S x h
 | .mp _ _,_,_=>True
def Ty.pureB:Ty→Bool
 | .one _ _ _=>true
 | .arr _ _ _ _ _=>true
 | .unit=>true
 | .pair a b=>a.pureB&&b.pureB
 | .slice _=>false
 | .node=>false
 | .mp _ _=>false
theorem bT.pure {w:World} {S:Nat→Prop}:(t:Ty)→(x:t.den)→(y:t.Refs)→t.pureB=true→bT w S t x y
 | .one _ _ _,_,_,_=>trivial
 | .arr _ _ _ _ _,_,_,_=>trivial
 | .unit,_,_,_=>trivial
 | .pair a b,x,y,h=>by
  simp only [Ty.pureB,Wp] at h
  exact ⟨bT.pure a x.1 y.1 h.1,bT.pure b x.2 y.2 h.2⟩
 | .slice _,_,_,h=>by cases h
 | .node,_,_,h=>by cases h
 | .mp _ _,_,_,h=>by cases h
theorem cp.mono {α β:Type} {R R' : α→β→Prop} (h : ∀ x y,R x y→R' x y) : ∀ {xs:List α} {ys:List β},cp R xs ys→cp R' xs ys
 | [],[],_=>trivial
 | _::_,_::_,⟨h1,h2⟩=>⟨h _ _ h1,cp.mono h h2⟩
 | [],_::_,hh=>hh
 | _::_,[],hh=>hh
theorem cp.length {α β:Type} {R:α→β→Prop} : ∀ {xs:List α} {ys:List β},cp R xs ys→xs.length=ys.length
 | [],[],_=>rfl
 | _::_,_::_,⟨_,h2⟩=>by simp [cp.length h2]
 | [],_::_,hh=>hh.elim
 | _::_,[],hh=>hh.elim
theorem cp.append {α β:Type} {R:α→β→Prop} : ∀ {xs:List α} {ys:List β} {xs' : List α} {ys' : List β},cp R xs ys→cp R xs' ys' → cp R (xs++xs') (ys++ys')
 | [],[],_,_,_,h=>h
 | _::_,_::_,_,_,⟨h1,h2⟩,h=>⟨h1,cp.append h2 h⟩
 | [],_::_,_,_,hh,_=>hh.elim
 | _::_,[],_,_,hh,_=>hh.elim
theorem cp.get {α β:Type} {R:α→β→Prop} : ∀ {xs:List α} {ys:List β} {i:Nat} {x:α},cp R xs ys→xs[i]? = some x→∃ y,ys[i]? = some y∧R x y
 | x' :: _,y' :: _,0,x,⟨h1,_⟩,h=>⟨y',rfl,by grind⟩
 | _::_,_::_,i+1,x,⟨_,h2⟩,h=>by
  simp at h
  obtain ⟨y,hy,hr⟩:=cp.get h2 h
  grind
 | [],[],_,_,_,h=>by simp at h
 | [],_::_,_,_,hh,_=>hh.elim
 | _::_,[],_,_,hh,_=>hh.elim
theorem cp.take {α β:Type} {R:α→β→Prop} : ∀ {xs:List α} {ys:List β} (k:Nat),cp R xs ys→cp R (xs.take k) (ys.take k)
 | [],[],_,_=>by simp [cp]
 | _::_,_::_,0,_=>by simp [cp]
 | _::_,_::_,k+1,⟨h1,h2⟩=>⟨h1,cp.take k h2⟩
 | [],_::_,_,hh=>hh.elim
 | _::_,[],_,hh=>hh.elim
theorem cp.drop {α β:Type} {R:α→β→Prop} : ∀ {xs:List α} {ys:List β} (k:Nat),cp R xs ys→cp R (xs.drop k) (ys.drop k)
 | [],[],_,_=>by simp [cp]
 | _::_,_::_,0,h=>h
 | _::_,_::_,k+1,⟨_,h2⟩=>cp.drop k h2
 | [],_::_,_,hh=>hh.elim
 | _::_,[],_,hh=>hh.elim
theorem cp.set {α β:Type} {R:α→β→Prop} : ∀ {xs:List α} {ys:List β} (k:Nat) {x:α} {y:β},cp R xs ys→R x y→cp R (xs.set k x) (ys.set k y)
 | [],[],_,_,_,_,_=>by simp [cp]
 | _::_,_::_,0,_,_,⟨_,h2⟩,h=>⟨h,h2⟩
 | _::_,_::_,k+1,_,_,⟨h1,h2⟩,h=>⟨h1,cp.set k h2 h⟩
 | [],_::_,_,_,_,hh,_=>hh.elim
 | _::_,[],_,_,_,hh,_=>hh.elim
theorem cT (t:Ty) : ∀ {xs:List t.den} {ys:List t.Refs},xs.length=ys.length→(cellsOf t xs ys).length=xs.length * t.sz
 | [],[],_=>by simp [cellsOf]
 | x::xs,y::ys,h=>by
  have:=cT t (xs:=xs) (ys:=ys) (by simpa using h)
  simp [cellsOf,t.fill_length,this,aaO]; omega
 | [],_::_,h=>by simp at h
 | _::_,[],h=>by simp at h
theorem eV (t:Ty) : ∀ {xs:List t.den} {ys:List t.Refs} {xs' : List t.den} {ys' : List t.Refs},xs.length=ys.length →
  cellsOf t (xs++xs') (ys++ys')=cellsOf t xs ys++cellsOf t xs' ys'
 | [],[],_,_,_=>by simp [cellsOf]
 | x::xs,y::ys,xs',ys',h=>by
  have:=eV t (xs:=xs) (ys:=ys) (xs' := xs') (ys' := ys') (by simpa using h)
  simp [cellsOf,this]
 | [],_::_,_,_,h=>by simp at h
 | _::_,[],_,_,h=>by simp at h
theorem sv (t:Ty) : ∀ {xs:List t.den} {ys:List t.Refs} {i:Nat} {x:t.den} {y:t.Refs},xs[i]? = some x→ys[i]? = some y →
  ((cellsOf t xs ys).drop (i * t.sz)).take t.sz=t.fill x y
 | x' :: xs,y' :: ys,0,x,y,hx,hy=>by
  simp at hx hy; subst hx; subst hy
  simp [cellsOf,t.fill_length]
 | x' :: xs,y' :: ys,i+1,x,y,hx,hy=>by
  simp at hx hy
  have:=sv t hx hy
  simp only [cellsOf]
  rw [show (i+1) * t.sz=(t.fill x' y').length+i * t.sz by rw [t.fill_length,aaO]; omega,YB,X2 (by omega)]
  grind
 | [],_,_,_,_,hx,_=>by simp at hx
 | _::_,[],_,_,_,_,hy=>by simp at hy
theorem jz (t:Ty) : ∀ {xs:List t.den} {ys:List t.Refs} (k:Nat),xs.length=ys.length →
  cellsOf t (xs.take k) (ys.take k)=(cellsOf t xs ys).take (k * t.sz)
 | [],[],_,_=>by simp [cellsOf]
 | x::xs,y::ys,0,_=>by simp [cellsOf]
 | x::xs,y::ys,k+1,h=>by
  have:=jz t (xs:=xs) (ys:=ys) k (by simpa using h)
  simp only [afN,cellsOf,this]
  rw [show (k+1) * t.sz=(t.fill x y).length+k * t.sz by rw [t.fill_length,aaO]; omega,Z9,Yr (l:=t.fill x y) (by omega)]
  simp
 | [],_::_,_,h=>by simp at h
 | _::_,[],_,h=>by simp at h
theorem rt (t:Ty) : ∀ {xs:List t.den} {ys:List t.Refs} (k:Nat),xs.length=ys.length →
  cellsOf t (xs.drop k) (ys.drop k)=(cellsOf t xs ys).drop (k * t.sz)
 | [],[],_,_=>by simp [cellsOf]
 | x::xs,y::ys,0,_=>by simp
 | x::xs,y::ys,k+1,h=>by
  have:=rt t (xs:=xs) (ys:=ys) k (by simpa using h)
  simp only [aeK,cellsOf,this]
  rw [show (k+1) * t.sz=(t.fill x y).length+k * t.sz by rw [t.fill_length,aaO]; omega,YB,X2 (as:=t.fill x y) (by omega)]
  simp
 | [],_::_,_,h=>by simp at h
 | _::_,[],_,h=>by simp at h
def qd (l:List Value):Prop:=∀ v∈l,v.oneCell' = true
theorem vM:(t:Ty)→(x:t.den)→(y:t.Refs)→qd (t.fill x y)
 | .one _ _ h,x,_=>by simp [qd,Ty.fill,h]
 | .arr _ _ _ _ h,x,_=>by
  simp only [qd,Ty.fill,W6]
  grind
 | .unit,_,_=>by simp [qd,Ty.fill]
 | .pair a b,x,y=>by
  simp only [qd,Ty.fill,Xd]
  rintro v (hv | hv)
  ·exact vM a x.1 y.1 v hv
  ·exact vM b x.2 y.2 v hv
 | .slice t,xs,v=>by
  simp only [qd,Ty.fill,Wz]
  rintro u rfl
  rfl
 | .node,x,h=>by
  simp only [qd,Ty.fill,Nd.fill,Xb,afD,aiC]
  rintro u (rfl | rfl | rfl | rfl) <;> rfl
 | .mp _ _,_,h=>by
  simp only [qd,Ty.fill,Wz]
  rintro u rfl
  rfl
theorem lj (t:Ty) : ∀ {xs:List t.den} {ys:List t.Refs},qd (cellsOf t xs ys)
 | [],[]=>by simp [qd,cellsOf]
 | x::xs,y::ys=>by
  simp only [qd,cellsOf,Xd]
  rintro v (hv | hv)
  ·exact vM t x y v hv
  ·exact lj t v hv
 | [],_::_=>by simp [qd,cellsOf]
 | _::_,[]=>by simp [qd,cellsOf]
def jG (w w' : World) (S S' : Nat→Prop):Prop:=∀ b,b<w.heap.size→S b→S' b∧w'.heap[b]? = w.heap[b]?
theorem Sl.keep (hk:jG w w' S S') {sz:Nat} {v:Hd}  {cells:List Value} (h:Sl w S sz v n cells):Sl w' S' sz v n cells:=by
 obtain ⟨hv,hn,hm,hc⟩:=h
 refine ⟨hv,hn,hm,?_⟩
 rcases hc with hc | ⟨b,off,arr,ty,fz,ha,hS,hb,hrest⟩
 ·exact .inl hc
 ·have hlt:b<w.heap.size:=(YD.1 hb).1
  obtain ⟨hS',hb'⟩:=hk b hlt hS
  grind
theorem ut : ∀ (xs:List Nd) (ys:List Hd),vL xs ys=cellsOf .node xs ys
 | [],[]=>rfl
 | x::xs,y::ys=>by simp only [vL,cellsOf,ut xs ys]; rfl
 | [],_::_=>rfl
 | _::_,[]=>rfl
theorem wt {w:World} {S:Nat→Prop} : ∀ {xs:List Nd} {ys:List Hd},lS w S xs ys↔cp (rd w S) xs ys
 | [],[]=>by rfl
 | x::xs,y::ys=>by
  rw [lS,cp,wt]
 | [],_::_=>by rfl
 | _::_,[]=>by rfl
theorem oF {x:Nd} {h:Hd}:rd w S x h↔bT w S (.slice .node) x.tup.2.2.2 h:=by
 cases x with
 | mk k t n l=>
  rw [rd]
  constructor
  ·rintro ⟨ys,h1,h2⟩
   exact ⟨ys,wt.1 h1,by rw [← ut]; exact h2⟩
  ·rintro ⟨ys,h1,h2⟩
   exact ⟨ys,wt.2 h1,by rw [ut]; exact h2⟩
mutual
theorem rd.keep {w w' : World} {S S' : Nat→Prop} (hk:jG w w' S S'):(x:Nd)→(h:Hd)→rd w S x h→rd w' S' x h
 | .mk k t n l,h,hr=>by
  rw [rd] at hr ⊢
  obtain ⟨ys,h1,h2⟩:=hr
  exact ⟨ys,lS.keep hk l ys h1,h2.keep hk⟩
theorem lS.keep {w w' : World} {S S' : Nat→Prop} (hk:jG w w' S S'):(xs:List Nd)→(ys:List Hd)→lS w S xs ys→lS w' S' xs ys
 | [],[],h=>h
 | x::xs,y::ys,h=>by
  rw [lS] at h ⊢
  exact ⟨rd.keep hk x y h.1,lS.keep hk xs ys h.2⟩
 | [],_::_,h=>by rw [lS] at h; exact h.elim; all_goals simp
 | _::_,[],h=>by rw [lS] at h; exact h.elim; all_goals simp
end
theorem bT.keep {w w' : World} {S S' : Nat→Prop} (hk:jG w w' S S'):(t:Ty)→(x:t.den)→(y:t.Refs)→bT w S t x y→bT w' S' t x y
 | .one _ _ _,_,_,_=>trivial
 | .arr _ _ _ _ _,_,_,_=>trivial
 | .unit,_,_,_=>trivial
 | .pair a b,x,y,h=>⟨bT.keep hk a x.1 y.1 h.1,bT.keep hk b x.2 y.2 h.2⟩
 | .slice t,_,_,⟨ys,h1,h2⟩=>⟨ys,h1.mono (bT.keep hk t),h2.keep hk⟩
 | .node,x,h,hh=>rd.keep hk x h hh
 | .mp _ _,_,_,_=>trivial
abbrev dm:=Nat→Value
abbrev bD:=Nat→Nat
def yf (ρ:dm) (d:Nat) (v:Value):dm:=fun t=>cond (Nat.beq t d) v (ρ t)
def aR (ρ:dm):Operand→Value
  | .tmp t=>ρ t
  | .const v=>v
  | .global g=>.pointer (some ⟨g,0,none⟩)
  | .func f=>.func (.func f) #[] #[]
structure Rel (n:Nat) (ρ:dm) (a:Act):Prop where
  defers:a.defers=[]
  size:a.tmps.size=n
  val : ∀ t,a.tmps.getD t undef=ρ t
theorem Rel.eval {ρ:dm} {a:Act} (h:Rel n ρ a):a.eval=aR ρ:=by
  funext x; cases x <;> simp [Act.eval,aR,h.val]
theorem Rel.put {ρ:dm} {a:Act} (h:Rel n ρ a) {d:Nat} (hd:Nat.blt d n=true) (v:Value):Rel n (yf ρ d v) (a.put (some d) v):=by
  have hd' : d<n:=Wt hd
  refine ⟨h.defers,by simp [Act.put,h.size],fun t=>?_⟩
  have hv:=h.val t
  simp only [Act.put,yf,aft,af2] at hv ⊢
  by_cases ht:t=d
  · subst ht; simp [h.size,hd']
  · have:Nat.beq t d=false:=by
      cases hb:Nat.beq t d
      · rfl
      simp_all
    grind
noncomputable def qk (S:Nat→Prop):bD:=open Classical in fun b=>if S b then 1 else 0
theorem agX (S:Nat→Prop) (b:Nat):qk S b=0∨qk S b=1:=by
  unfold qk; split <;> simp
def nP (w w' : World):Prop:=w'.os=w.os∧w'.output=w.output
theorem nP.refl (w:World):nP w w:=⟨rfl,rfl⟩
theorem nP.trans {a b c:World} (h:nP a b) (k:nP b c):nP a c:=⟨k.1.trans h.1,k.2.trans h.2⟩
def ur (w:World) (e:TypeId) (sz:Nat) (v:Value) (n:Nat) (xs:List Value):Prop:=
  xs.length=n * sz∧((v = .slice none 0 0∧n=0) ∨
   ∃ (g cap:Nat) (cur:Array Value) (ty:TypeId) (fz:Nat×Nat),v = .slice (some ⟨g,0,none⟩) n cap∧w.heap[g]? = some (.cells cur ty fz)∧((ty=e∧fz=(0,0))∨(1048576≤e∧cur.size≤fz.1)) ∧
     n≤cap∧cap≤maxLen∧cur.size=cap * sz∧cur.toList.take (n * sz)=xs)
theorem Aa {base:Nat} {e:TypeId} {sz:Nat} {v:Value}   (h:w.ownsRow base e sz v n xs):ur w e sz v n xs:=
  ⟨h.1,h.2.imp id fun ⟨g,cap,cur,hv,_,hg,h1,h2,h3,h4⟩=>⟨g,cap,cur,e,(0,0),hv,hg, .inl ⟨rfl,rfl⟩,h1,h2,h3,h4⟩⟩
theorem ur.plain {e:TypeId} {sz:Nat} {v:Value}   (h:ur w e sz v n xs) (he:Nat.blt e 1048576=true):w.ownsRow 0 e sz v n xs:=
  ⟨h.1,h.2.imp id fun ⟨g,cap,cur,ty,fz,hv,hg,hm,h1,h2,h3,h4⟩=>by
    have he' : e+1≤1048576:=Wt he
    grind⟩
theorem ur.lt {e:TypeId} {sz:Nat} {v:Value}   (h:ur w e sz v n xs) : ∀ g,v.ownBlock=some g→g<w.heap.size:=by
  intro g hg
  rcases h.2 with ⟨rfl,_⟩ | ⟨g',cap,cur,ty,fz,rfl,hgg,_⟩
  · simp [Value.ownBlock] at hg
  · simp only [Value.ownBlock,Wn] at hg
    grind
theorem ur.same {e:TypeId} {sz:Nat} {v:Value}  {cells:List Value} (h:ur w e sz v n cells)
    (hb : ∀ g,v.ownBlock=some g→g<w.heap.size→w'.heap[g]? = w.heap[g]?):ur w' e sz v n cells:=by
  refine ⟨h.1,?_⟩
  rcases h.2 with h2 | ⟨g,cap,cur,ty,fz,rfl,hg,hrest⟩
  · exact .inl h2
  · exact .inr ⟨g,cap,cur,ty,fz,rfl,(hb g rfl (YD.1 hg).1).trans hg,hrest⟩
inductive EI
  | leaf
  | pair (a b:EI)
  | row (e:TypeId) (s:EI)
  deriving DecidableEq
def EI.fst:EI→EI
  | .pair a _=>a
  | _=>.leaf
def EI.snd:EI→EI
  | .pair _ b=>b
  | _=>.leaf
def EI.dec:Nat→Nat→EI×Nat
  | 0,n=>(.leaf,n)
  | f+1,n=>match n % 65536 with
    | 0=>(.leaf,n / 65536)
    | 1=>(.pair (EI.dec f (n / 65536)).1 (EI.dec f (EI.dec f (n / 65536)).2).1,(EI.dec f (EI.dec f (n / 65536)).2).2)
    | e+2=>(.row e (EI.dec f (n / 65536)).1,(EI.dec f (n / 65536)).2)
def fG (e:TypeId):Bool:=Nat.ble 1099511627776 e
def gz (e:TypeId):EI:=(EI.dec 16 (e / 1099511627776)).1
def Eg (w:World) (S:Nat→Prop) (d:Nat→List Nat) (π:List Nat) (e:TypeId) (sz:Nat) (h:Hd) (n:Nat) (cells:List Value):Prop:=
  ∃ (g cap:Nat) (cur:Array Value),h=⟨some ⟨g,0,none⟩,n,cap⟩∧w.heap[g]? = some (.cells cur e (0,0))∧n≤cap∧cap≤maxLen∧cur.size=cap * sz∧cur.toList.take (n * sz)=cells∧S g∧d g=π
def bK (w:World) (S:Nat→Prop) (d:Nat→List Nat):(t:Ty)→EI→List Nat→t.den→t.Refs→Prop
  | .one _ _ _,_,_,_,_=>True
  | .arr _ _ _ _ _,_,_,_,_=>True
  | .unit,_,_,_,_=>True
  | .pair a b,ε,π,x,y=>bK w S d a ε.fst (0::π) x.1 y.1∧bK w S d b ε.snd (1::π) x.2 y.2
  | .slice t,ε,π,xs,h=>(h=⟨none,0,0⟩∧xs=[])∨∃ e s,ε = .row e s∧∃ ys:List t.Refs,ys.length=xs.length∧Eg w S d π e t.sz h xs.length (cellsOf t xs ys) ∧
      ∀ (j:Nat) (x:t.den) (y:t.Refs),xs[j]? = some x→ys[j]? = some y→bK w S d t s (j::π) x y
  | .node,_,_,_,_=>False
  | .mp _ _,_,_,_,_=>False
theorem Eg.keep {d:Nat→List Nat} {π:List Nat} {e:TypeId} {sz:Nat} {h:Hd} {cells:List Value} (hk:jG w w' S S')
    (hr:Eg w S d π e sz h n cells):Eg w' S' d π e sz h n cells:=by
  obtain ⟨g,cap,cur,h1,h2,h3,h4,h5,h6,h7,h8⟩:=hr
  obtain ⟨k1,k2⟩:=hk g (YD.1 h2).1 h7
  exact ⟨g,cap,cur,h1,k2.trans h2,h3,h4,h5,h6,k1,h8⟩
theorem bK.keep {w w' : World} {S S' : Nat→Prop} {d:Nat→List Nat} (hk:jG w w' S S'):(t:Ty)→(ε:EI)→(π:List Nat)→(x:t.den)→(y:t.Refs) →
    bK w S d t ε π x y→bK w' S' d t ε π x y
  | .one _ _ _,_,_,_,_,_=>trivial
  | .arr _ _ _ _ _,_,_,_,_,_=>trivial
  | .unit,_,_,_,_,_=>trivial
  | .pair a b,ε,π,x,y,h=>⟨bK.keep hk a _ _ _ _ h.1,bK.keep hk b _ _ _ _ h.2⟩
  | .slice t,ε,π,xs,h,hh=>by
    rcases hh with hh | ⟨e,s,he,ys,h1,h2,h3⟩
    · exact .inl hh
    · exact .inr ⟨e,s,he,ys,h1,h2.keep hk,fun j x y hx hy=>bK.keep hk t s (j::π) x y (h3 j x y hx hy)⟩
theorem kP {α β:Type} {R:α→β→Prop} : ∀ {xs:List α} {ys:List β},ys.length=xs.length→(∀ (j:Nat) (x:α) (y:β),xs[j]? = some x→ys[j]? = some y→R x y)→cp R xs ys
  | [],[],_,_=>trivial
  | x::xs,y::ys,hl,h=>⟨h 0 x y rfl rfl,kP (by simpa using hl) fun j a b ha hb=>h (j+1) a b (by simpa using ha) (by simpa using hb)⟩
  | [],_::_,hl,_=>by simp at hl
  | _::_,[],hl,_=>by simp at hl
theorem bK.rep {w:World} {S S' : Nat→Prop} {d:Nat→List Nat} (hS : ∀ b,S b→S' b):(t:Ty)→(ε:EI)→(π:List Nat)→(x:t.den)→(y:t.Refs)→bK w S d t ε π x y→bT w S' t x y
  | .one _ _ _,_,_,_,_,_=>trivial
  | .arr _ _ _ _ _,_,_,_,_,_=>trivial
  | .unit,_,_,_,_,_=>trivial
  | .pair a b,ε,π,x,y,h=>⟨bK.rep hS a _ _ _ _ h.1,bK.rep hS b _ _ _ _ h.2⟩
  | .slice t,ε,π,xs,h,hh=>by
    rcases hh with ⟨rfl,rfl⟩ | ⟨e,s,he,ys,h1,h2,h3⟩
    · exact ⟨[],trivial,rfl,by simp,by simp [maxLen], .inl ⟨trivial,rfl⟩⟩
    · refine ⟨ys,kP h1 fun j x y hx hy=>bK.rep hS t s (j::π) x y (h3 j x y hx hy),?_⟩
      obtain ⟨g,cap,cur,rfl,g2,g3,g4,g5,g6,g7,g8⟩:=h2
      exact ⟨rfl,g3,g4, .inr ⟨g,0,cur,e,(0,0),rfl,hS g g7,g2,by grind,by simpa using g6⟩⟩
def fA (t:Ty) (xs:List t.den) (ys:List t.Refs) (k:Nat) (cs:List Value):List Value:=cellsOf t (xs.take k) (ys.take k)++cs++cellsOf t (xs.drop (k+1)) (ys.drop (k+1))
def kG (w:World) (S:Nat→Prop) (t:Ty) (e:TypeId) (xs:List t.den) (v:Hd) (k:Nat) (cs:List Value):Prop:=
  ∃ (d:Nat→List Nat) (e0:TypeId) (s:EI) (ys:List t.Refs),gz e = .row e0 s∧ys.length=xs.length∧k<xs.length∧cs.length=t.sz∧Eg w S d [] e0 t.sz v xs.length (fA t xs ys k cs) ∧
    ∀ (j:Nat) (x:t.den) (y:t.Refs),j≠k→xs[j]? = some x→ys[j]? = some y→bK w S d t s [j] x y
theorem kG.keep {t:Ty} {e:TypeId} {xs:List t.den} {v:Hd} {k:Nat}  (hk:jG w w' S S')
    (h:kG w S t e xs v k cs):kG w' S' t e xs v k cs:=by
  obtain ⟨d,e0,s,ys,h1,h2,h3,h4,h5,h6⟩:=h
  exact ⟨d,e0,s,ys,h1,h2,h3,h4,h5.keep hk,fun j x y hj hx hy=>bK.keep hk t s _ x y (h6 j x y hj hx hy)⟩
def cM (w:World) (S:Nat→Prop) (t:Ty) (ε:EI) (x:t.den) (y:t.Refs):Prop:=∃ d:Nat→List Nat,bK w S d t ε [] x y
theorem cM.keep {t:Ty} {ε:EI} {x:t.den} {y:t.Refs} (hk:jG w w' S S') (h:cM w S t ε x y):cM w' S' t ε x y:=h.imp fun _ h=>bK.keep hk t ε [] x y h
def tj (w:World) (S:Nat→Prop) (b:Nat) (es:List (Value×Value)):Prop:=
  ∃ (arr:Array MapEntry) (clock:Nat),w.heap[b]? = some (.map arr clock)∧arr.toList.map (fun e=>(e.key,e.val))=es∧(∀ e∈arr.toList,e.born<clock)∧(arr.toList.map (·.born)).Nodup∧S b
theorem tj.keep {b:Nat} {es:List (Value×Value)} (hk:jG w w' S S') (h:tj w S b es):tj w' S' b es:=by
  obtain ⟨arr,clock,h1,h2,h3,h4,h5⟩:=h
  obtain ⟨k1,k2⟩:=hk b (YD.1 h1).1 h5
  exact ⟨arr,clock,k2.trans h1,h2,h3,h4,k1⟩
def wy (w:World) (S SK:Nat→Prop) (t:Ty) (e:TypeId) (xs:List t.den) (v:Hd) (m:Int):Prop:=
  (v=⟨none,0,0⟩∧xs=[])∨∃ (d:Nat→List Nat) (e0:TypeId) (s:EI) (ys:List t.Refs),gz e = .row e0 s∧ys.length=xs.length∧Eg w S d [] e0 t.sz v xs.length (cellsOf t xs ys) ∧
    (∀ (j:Nat) (x:t.den) (y:t.Refs),(j:Int)<m→xs[j]? = some x→ys[j]? = some y→bK w S d t s [j] x y)∧(∀ (j:Nat) (x:t.den) (y:t.Refs),m≤(j:Int)→xs[j]? = some x→ys[j]? = some y→bT w SK t x y)
theorem wy.keep {SK SK':Nat→Prop} {t:Ty} {e:TypeId} {xs:List t.den} {v:Hd} {m:Int} (hk:jG w w' S S') (hk2:jG w w' SK SK') (h:wy w S SK t e xs v m):wy w' S' SK' t e xs v m:=by
  rcases h with h | ⟨d,e0,s,ys,h1,h2,h3,h4,h5⟩
  · exact .inl h
  · refine .inr ⟨d,e0,s,ys,h1,h2,h3.keep hk,fun j x y hj hx hy=>bK.keep hk t s _ x y (h4 j x y hj hx hy),fun j x y hj hx hy=>bT.keep hk2 t x y (h5 j x y hj hx hy)⟩
inductive HA:Type 1
  | pt (t:Ty) (e:TypeId) (i:Nat) (K:List Nat) (xs:List t.den) (v:Hd) (m:Int)
  | mp (i b:Nat) (es:List (Value×Value))
  | tr (t:Ty) (e:TypeId) (i:Nat) (K:List Nat) (xs:List t.den) (v:Hd)
  | hol (t:Ty) (e:TypeId) (i:Nat) (xs:List t.den) (v:Hd) (k:Nat) (cs:List Value)
  | rep (t:Ty) (K:List Nat) (xs:List t.den) (v:Hd)
  | own (t:Ty) (e:TypeId) (i:Nat) (K:List Nat) (xs:List t.den) (v:Hd)
  | box (i b:Nat) (cs:List Value)
  | elem (t:Ty) (K:List Nat) (x:t.den) (p:Addr)
  | old (w0:World) (c0:bD)
  | pure (p:Prop)
  | gl (g n:Nat) (cs:List Value)
def HA.holds (w:World) (c:bD):HA→Prop
  | .pt t e i K xs v m=>wy w (fun b=>c b=i) (fun b=>c b∈K) t e xs v m
  | .tr t e i _ xs v=>cM w (fun b=>c b=i) (.slice t) (gz e) xs v
  | .hol t e i xs v k cs=>kG w (fun b=>c b=i) t e xs v k cs
  | .mp i b es=>tj w (fun b=>c b=i) b es
  | .rep t K xs v=>bT w (fun b=>c b∈K) (.slice t) xs v
  | .own t e i K xs v=>∃ ys,cp (bT w (fun b=>c b∈K) t) xs ys∧ur w e t.sz v.val xs.length (cellsOf t xs ys)∧∀ g,v.val.ownBlock=some g→c g=i
  | .box i b cs=>(∃ ty,w.heap[b]? = some (.cells cs.toArray ty (0,0)))∧c b=i
  | .elem t K x p=>∃ y b off arr ty fz,p=⟨b,off,none⟩∧c b∈K∧w.heap[b]? = some (.cells arr ty fz)∧off+t.sz≤arr.size ∧
      (arr.toList.drop off).take t.sz=t.fill x y∧bT w (fun b=>c b∈K) t x y
  | .old w0 c0=>w0.heap.size≤w.heap.size∧(∀ b,b<w0.heap.size→c0 b≤1→w.heap[b]? = w0.heap[b]? ∧ c b=c0 b)∧(∀ b,b<w.heap.size→(b<w0.heap.size→2≤c0 b)→2≤c b)∧nP w0 w
  | .pure p=>p
  | .gl g n cs=>(∃ ty fz,w.heap[g]? = some (.cells cs.toArray ty fz))∧c g≤1∧n≤maxLen
def HA.uses:HA→List Nat
  | .pt _ _ i K _ _ _=>i::K
  | .tr _ _ i K _ _=>i::K
  | .hol _ _ i _ _ _ _=>[i]
  | .mp i _ _=>[i]
  | .rep _ K _ _=>K
  | .own _ _ i K _ _=>i::K
  | .box i _ _=>[i]
  | .elem _ K _ _=>K
  | .old _ _=>[0,1]
  | .pure _=>[]
  | .gl _ _ _=>[0,1]
structure Stp (κ:List Nat) (w:World) (c:bD) (w' : World) (c' : bD):Prop where
  size:w.heap.size≤w'.heap.size
  col : ∀ b,b<w.heap.size→c b∉κ→c' b=c b
  same : ∀ b,b<w.heap.size→c b∉κ→w'.heap[b]? = w.heap[b]?
  two : ∀ b,b<w'.heap.size→(b<w.heap.size→c b∈κ∧2≤c b)→2≤c' b
  env:nP w w'
theorem Stp.mk0 {c:bD}  {c' : bD} (size:w.heap.size≤w'.heap.size) (col : ∀ b,b<w.heap.size→c' b=c b) (same : ∀ b,b<w.heap.size→c b∉κ→w'.heap[b]? = w.heap[b]?)
    (two : ∀ b,w.heap.size≤b→b<w'.heap.size→2≤c' b) (env:nP w w'):Stp κ w c w' c' :=
  ⟨size,fun b hb _=>col b hb,same,fun b hb h=>if hlt:b<w.heap.size then (col b hlt).symm ▸ (h hlt).2 else two b (by omega) hb,env⟩
theorem Stp.refl (w:World) (c:bD):Stp [] w c w c:=.mk0 (Xw _) (fun _ _=>rfl) (fun _ _ _=>rfl) (fun b h1 h2=>by omega) (nP.refl w)
theorem Stp.keeps {c:bD}  {c' : bD} (h:Stp κ w c w' c')  (hK : ∀ k∈K,k∉κ) :
    jG w w' (fun b=>c b∈K) (fun b=>c' b∈K):=fun b hb hc=>⟨by show c' b∈K; rw [h.col b hb (hK _ hc)]; exact hc,h.same b hb (hK _ hc)⟩
theorem HA.stp {c:bD}  {c' : bD} (hs:Stp κ w c w' c'):(A:HA)→(∀ k∈A.uses,k∉κ)→A.holds w c→A.holds w' c'
  | .tr t e i K xs v,hK,h=>by
    have hi:i∉κ:=hK i (by simp [HA.uses])
    exact cM.keep (fun b hb (hc:c b=i)=>⟨by show c' b=i; rw [hs.col b hb (by grind)]; exact hc,hs.same b hb (by grind)⟩) h
  | .pt t e i K xs v m,hK,h=>by
    have hi:i∉κ:=hK i (by simp [HA.uses])
    exact wy.keep (fun b hb (hc:c b=i)=>⟨by show c' b=i; rw [hs.col b hb (by grind)]; exact hc,hs.same b hb (by grind)⟩) (hs.keeps (fun k hk=>hK k (by simp [HA.uses,hk]))) h
  | .hol t e i xs v k cs,hK,h=>by
    have hi:i∉κ:=hK i (by simp [HA.uses])
    exact kG.keep (fun b hb (hc:c b=i)=>⟨by show c' b=i; rw [hs.col b hb (by grind)]; exact hc,hs.same b hb (by grind)⟩) h
  | .mp i b es,hK,h=>by
    have hi:i∉κ:=hK i (by simp [HA.uses])
    exact tj.keep (fun b hb (hc:c b=i)=>⟨by show c' b=i; rw [hs.col b hb (by rw [hc]; exact hi)]; exact hc,hs.same b hb (by grind)⟩) h
  | .rep t K xs v,hK,h=>bT.keep (hs.keeps hK) (.slice t) xs v h
  | .own t e i K xs v,hK,⟨ys,h1,h2,h3⟩=>by
    have hi:i∉κ:=hK i (by simp [HA.uses])
    have hlt : ∀ g,v.val.ownBlock=some g→g<w.heap.size:=fun g hg=>h2.lt g hg
    exact ⟨ys,h1.mono (bT.keep (hs.keeps (fun k hk=>hK k (by simp [HA.uses,hk]))) t),h2.same (fun g hg hl=>hs.same g hl (by grind)),
      fun g hg=>by rw [hs.col g (hlt g hg) (by grind)]; exact h3 g hg⟩
  | .box i b cs,hK,⟨⟨ty,hb⟩,hc⟩=>by
    have hlt:b<w.heap.size:=(YD.1 hb).1
    exact ⟨⟨ty,(hs.same b hlt (by rw [hc]; exact hK i (by simp [HA.uses]))).trans hb⟩,by rw [hs.col b hlt (by rw [hc]; exact hK i (by simp [HA.uses]))]; exact hc⟩
  | .elem t K x p,hK,⟨y,b,off,arr,ty,fz,hp,hc,hb,h1,h2,h3⟩=>by
    have hlt:b<w.heap.size:=(YD.1 hb).1
    exact ⟨y,b,off,arr,ty,fz,hp,by rw [hs.col b hlt (hK _ hc)]; exact hc,(hs.same b hlt (hK _ hc)).trans hb,h1,h2,bT.keep (hs.keeps hK) t x y h3⟩
  | .old w0 c0,hK,⟨h1,h2,h5,h6⟩=>by
    refine ⟨agt h1 hs.size,fun b hb h01=>?_,fun b hb hb' => ?_,h6.trans hs.env⟩
    · obtain ⟨h3,h4⟩:=h2 b hb h01
      have hlt:b<w.heap.size:=Nat.lt_of_lt_of_le hb h1
      have hn:c b∉κ:=by
        rw [h4]
        rcases (show c0 b=0∨c0 b=1 by omega) with e | e <;> rw [e] <;> exact hK _ (by simp [HA.uses])
      exact ⟨(hs.same b hlt hn).trans h3,by rw [hs.col b hlt hn]; exact h4⟩
    · by_cases hlt:b<w.heap.size
      · have h2' := h5 b hlt hb'
        by_cases hk:c b∈κ
        · exact hs.two b hb fun _=>⟨hk,h2'⟩
        · rw [hs.col b hlt hk]; exact h2'
      · exact hs.two b hb fun h=>absurd h hlt
  | .pure _,_,h=>h
  | .gl g n cs,hK,⟨⟨ty,fz,hb⟩,hc,hn⟩=>by
    have hlt:g<w.heap.size:=(YD.1 hb).1
    have hk:c g∉κ:=by
      rcases (show c g=0∨c g=1 by omega) with e | e <;> rw [e] <;> exact hK _ (by simp [HA.uses])
    exact ⟨⟨ty,fz,(hs.same g hlt hk).trans hb⟩,by rw [hs.col g hlt hk]; exact hc,hn⟩
def am (w:World) (c:bD) (L:List HA):Prop:=∀ A∈L,A.holds w c
theorem am.nil (w:World) (c:bD):am w c []:=fun _ h=>by simp at h
theorem am.cons {c:bD} {A:HA} {L:List HA} (h:A.holds w c) (hL:am w c L):am w c (A::L):=fun B hB=>by
  rcases Xb.1 hB with rfl | hB
  · exact h
  · exact hL B hB
theorem am.append {c:bD} {L L' : List HA} (h:am w c L) (h' : am w c L'):am w c (L++L'):=fun A hA=>by
  rcases Xd.1 hA with hA | hA
  · exact h A hA
  · exact h' A hA
theorem am.at {c:bD} {L:List HA} (h:am w c L) {k:Nat} {A:HA} (hk:L[k]? = some A):A.holds w c:=h A (af9 hk)
theorem am.sub {c:bD} {L:List HA} (h:am w c L) (is:List Nat) {L' : List HA} (he:is.filterMap (L[·]?)=L'):am w c L' := by
  subst he
  intro A hA
  obtain ⟨i,_,hi⟩:=List.mem_filterMap.1 hA
  exact h.at hi
def q9 (κ:List Nat) (A:HA):Bool:=A.uses.all fun k=>κ.all fun j=>!(Nat.beq k j)
def keep (κ:List Nat) (L:List HA):List HA:=L.filter (q9 κ)
theorem am.stp {c:bD}  {c' : bD} (hs:Stp κ w c w' c') {L:List HA} (h:am w c L):am w' c' (keep κ L):=by
  intro A hA
  simp only [keep,ZP] at hA
  refine HA.stp hs A (fun k hk hκ=>?_) (h A hA.1)
  have:=W3.1 (W3.1 hA.2 k hk) k hκ
  simp at this
theorem am.stp0 {c:bD}  {c' : bD} (hs:Stp [] w c w' c') {L:List HA} (h:am w c L):am w' c' L:=
  fun A hA=>HA.stp hs A (by simp) (h A hA)
def c9 (P:Program) (ρ:dm) (o:Oper) (L:List HA) (κ:List Nat) {Y:Type} (val:Y→Value) (Φ:Y→List HA):Prop:=
  ∀ (a:Act) (ev:Operand→Value) (w:World) (c:bD) (next:Act→World→Prop) (Q:Exit→Act→World→Prop),ev=aR ρ→am w c L →
    (∀ y w' c',Stp κ w c w' c' → am w' c' (Φ y)→next (a.put o.dst (val y)) w') →
    o.upon P a next Q ((execOp ev o).run P w)
def br (P:Program) (ρ:dm) (o:Oper) (L:List HA) (v:Value):Prop:=
  ∀ (ev:Operand→Value) (w:World) (c:bD),ev=aR ρ→am w c L→(execOp ev o).run P w = .ok (.value v) w
theorem br.op {P:Program} {ρ:dm} {o:Oper} {L:List HA} {v:Value} (h:br P ρ o L v):c9 P ρ o L [] (fun _:Unit=>v) (fun _=>[]):=by
  intro a ev w c next Q ha hL hk
  rw [h ev w c ha hL]
  exact hk () w c (Stp.refl w c) (am.nil _ _)
def Sim (P:Program) (n:Nat) (cd:Code) (Q:Exit→Act→World→Prop) (ρ:dm) (L:List HA):Prop:=
  ∀ a w c,Rel n ρ a→am w c L→cd.wp P Q a w
section
variable {P:Program} {n:Nat} {Q:Exit→Act→World→Prop} {ρ:dm} {L:List HA} {ops:Array Oper} {rest:List Oper} {o:Oper}
end
def HA.ren (g:Nat→Nat):HA→HA
 | .tr t e i K xs v=>.tr t e (g i) (K.map g) xs v
 | .pt t e i K xs v m=>.pt t e (g i) (K.map g) xs v m
 | .hol t e i xs v k cs=>.hol t e (g i) xs v k cs
 | .mp i b es=>.mp (g i) b es
 | .rep t K xs v=>.rep t (K.map g) xs v
 | .own t e i K xs v=>.own t e (g i) (K.map g) xs v
 | .box i b cs=>.box (g i) b cs
 | .elem t K x p=>.elem t (K.map g) x p
 | .old w0 S=>.old w0 S
 | .pure p=>.pure p
 | .gl g n cs=>.gl g n cs
structure Gd (g:Nat→Nat):Prop where
 z:g 0=0
 o:g 1=1
 two : ∀ k,2≤k→2≤g k
theorem HA.ren_holds (hg:Gd g)  {c:bD}:(A:HA)→A.holds w c→(A.ren g).holds w (fun b=>g (c b))
 | .tr t e i K xs v,h=>cM.keep (fun b _ (hc:c b=i)=>⟨by grind,rfl⟩) h
 | .hol t e i xs v k cs,h=>kG.keep (fun b _ (hc:c b=i)=>⟨by grind,rfl⟩) h
 | .pt t e i K xs v m,h=>wy.keep (S:=fun b=>c b=i) (SK:=fun b=>c b∈K) (fun b _ (hc:c b=i)=>⟨by grind,rfl⟩) (fun b _ hb=>⟨W6.2 ⟨_,hb,rfl⟩,rfl⟩) h
 | .mp i b es,h=>tj.keep (S' := fun b=>g (c b)=g i) (fun b _ (hc:c b=i)=>⟨by grind,rfl⟩) h
 | .rep t K xs v,h=>bT.keep (S:=fun b=>c b∈K) (fun b _ hb=>⟨W6.2 ⟨_,hb,rfl⟩,rfl⟩) (.slice t) xs v h
 | .own t e i K xs v,⟨ys,h1,h2,h3⟩=>⟨ys,h1.mono (bT.keep (S:=fun b=>c b∈K) (fun b _ hb=>⟨W6.2 ⟨_,hb,rfl⟩,rfl⟩) t),h2,fun b hb=>by grind⟩
 | .box i b cs,⟨h1,h2⟩=>⟨h1,by grind⟩
 | .elem t K x p,⟨y,b,off,arr,ty,fz,hp,hc,h1,h2,h3,h4⟩=>
  ⟨y,b,off,arr,ty,fz,hp,W6.2 ⟨_,hc,rfl⟩,h1,h2,h3,bT.keep (S:=fun b=>c b∈K) (fun b _ hb=>⟨W6.2 ⟨_,hb,rfl⟩,rfl⟩) t x y h4⟩
 | .old w0 c0,⟨h1,h2,h3,h4⟩=>⟨h1,fun b hb h01=>⟨(h2 b hb h01).1,by
   show g (c b)=_
   rw [(h2 b hb h01).2]
   rcases (show c0 b=0∨c0 b=1 by omega) with e | e <;> rw [e]
   ·exact hg.z
   ·exact hg.o⟩,fun b hb hb' => hg.two _ (h3 b hb hb'),h4⟩
 | .pure _,h=>h
 | .gl b n cs,⟨h1,h2,h3⟩=>⟨h1,by
   show g (c b)≤1
   rcases (show c b=0∨c b=1 by omega) with e | e <;> rw [e]
   ·rw [hg.z]; omega
   ·rw [hg.o]; omega,h3⟩
theorem am.ren (hg:Gd g)  {c:bD} {L:List HA} (h:am w c L):am w (fun b=>g (c b)) (L.map (HA.ren g)):=by
 intro A hA
 obtain ⟨B,hB,rfl⟩:=W6.1 hA
 exact B.ren_holds hg (h B hB)
def qE (l:List (Nat×Nat)) (d:Nat) (k:Nat):Nat:=
 match k with
 | 0=>0
 | 1=>1
 | _=>match l with
  | []=>d
  | (a,b)::r=>cond (Nat.beq k a) b (qE r d k)
theorem Lv {l:List (Nat×Nat)} {d:Nat} (h:(d::l.map (·.2)).all (fun x=>Nat.ble 2 x)=true):Gd (qE l d):=by
 have hd:2≤d:=Wt (W3.1 h d (by simp))
 have hl : ∀ p∈l,2≤p.2:=fun p hp=>Wt (W3.1 h p.2 (by grind))
 refine ⟨by simp [qE],by simp [qE],?_⟩
 intro k hk
 clear h
 induction l with
 | nil=>
  match k,hk with
  | k+2,_=>exact hd
 | cons p r ih=>
  obtain ⟨a,b⟩:=p
  match k,hk with
  | k+2,hk=>
   simp only [qE]
   cases hb:Nat.beq (k+2) a
   ·grind
   simp_all
theorem als (h:K.all (fun k=>Ka.any fun j=>Nat.beq k j)=true) {k:Nat} (hk:k∈K):k∈Ka:=by
 simp_all
theorem zP {c:bD} {t:Ty} {e:TypeId}   {xs:List t.den} {v:Hd} (h:HA.holds w c (.own t e i K xs v)):HA.holds w c (.rep t (i::K) xs v):=by
 obtain ⟨ys,h1,h2,h3⟩:=h
 obtain ⟨a,n,cap⟩:=v
 refine ⟨ys,h1.mono (bT.keep (fun b _ hb=>⟨Wq _ hb,rfl⟩) t),?_⟩
 rcases h2.2 with ⟨hv,hn⟩ | ⟨g,cap',cur,ty,fz,hv,hg,_,hle,hm,hsz,hcells⟩
 ·simp only [Hd.val,Value.slice.injEq] at hv
  obtain ⟨rfl,rfl,rfl⟩:=hv
  exact ⟨by simp [hn],by simp [hn],by simp [maxLen], .inl ⟨trivial,rfl⟩⟩
 ·simp only [Hd.val,Value.slice.injEq] at hv
  obtain ⟨rfl,rfl,rfl⟩:=hv
  exact ⟨rfl,hle,hm, .inr ⟨g,0,cur,ty,fz,rfl,by show c g∈i::K; rw [h3 g rfl]; simp,hg,by simp [hsz],by grind⟩⟩
def Ep (A A' : HA):Prop:=∀ w c,A.holds w c→A'.holds w c
theorem zj {t:Ty} {e:TypeId} {xs:List t.den} {v:Hd} (h:t.pureB=true):Ep (.own t e i K xs v) (.own t e i K' xs v):=
 fun _ _ ⟨ys,h1,h2,h3⟩=>⟨ys,h1.mono (fun x y _=>bT.pure t x y h),h2,h3⟩
theorem vG {A:HA}:Ep A A:=fun _ _ h=>h
def D5 (A:HA):Prop:=∀ w c,A.holds w c
theorem rO {t:Ty} :D5 (.rep t K [] ⟨none,0,0⟩):=fun _ _=>⟨[],trivial,rfl,by simp,by simp [maxLen], .inl ⟨trivial,rfl⟩⟩
theorem BW {t:Ty} {e:TypeId} :D5 (.own t e i K [] ⟨none,0,0⟩):=fun _ _=>⟨[],trivial,⟨by simp [cellsOf], .inl ⟨rfl,rfl⟩⟩,fun g hg=>by simp [Value.ownBlock] at hg⟩
def pw (L:List HA):List HA→Prop
 | []=>True
 | A' :: r=>((∃ (k:Nat) (A:HA),L[k]? = some A∧Ep A A')∨D5 A')∧pw L r
theorem pw.heap {c:bD} {L:List HA} (hL:am w c L) : ∀ {l:List HA},pw L l→am w c l
 | [],_=>am.nil _ _
 | _::_,⟨.inl ⟨_,_,hk,hc⟩,hr⟩=>am.cons (hc w c (hL.at hk)) (hr.heap hL)
 | _::_,⟨.inr hf,hr⟩=>am.cons (hf w c) (hr.heap hL)
def un {S R:Type} (f:S→Option (S⊕R)):Nat→S→Option R
 | 0,_=>none
 | k+1,s=>(f s).bind fun | .inl s' => un f k s' | .inr r=>some r
section
variable {P:Program} {n:Nat} {Q:Exit→Act→World→Prop} {ρ:dm} {L:List HA}
theorem bind_some {β:Type} {m:Option α} {k:α→Option β} {r:β} (h:m.bind k=some r) : ∃ s,m=some s∧k s=some r:=Zb.1 h
theorem O5 {f:FuncId} {fn:Func} {cd:Code} {R:Ending→World→Prop} (hf:P.funcs[f]? = some fn) (hb:fn.body=some cd) (hn:fn.ntmps=n) (args:List Value) {w0:World} {c0:bD}
  (hargs:Nat.ble args.length n=true) (hL:am w0 c0 L) (h:Sim P n cd (bodyPost P fn R) (fun t=>args.getD t undef) (.old w0 c0::L)):Calls P f args.toArray w0 R:=by
 refine calls_of_wp hf hb (h _ w0 c0 ⟨rfl,?_,fun t=>?_⟩ (am.cons ⟨Xw _,fun b _ _=>⟨rfl,rfl⟩,fun b h1 h2=>h2 h1,nP.refl _⟩ hL))
 ·simp_all
 ·simp only [aft,XF,Array.getElem?_append,aiL,List.size_toArray,List.getElem?_toArray]
  grind
def ajW (K:List Nat) (A A' : HA):Prop:=∀ w c,A.holds w c→A'.holds w (qk fun b=>c b∈K)
def PM (L:List HA) (Ka:List Nat):List HA→Prop
 | []=>True
 | A' :: r=>((∃ (k:Nat) (A:HA),L[k]? = some A∧ajW Ka A A')∨D5 A')∧PM L Ka r
theorem PM.heap {c:bD} (hL:am w c L) : ∀ {l:List HA},PM L Ka l→am w (qk fun b=>c b∈Ka) l
 | [],_=>am.nil _ _
 | _::_,⟨.inl ⟨_,_,hk,hc⟩,hr⟩=>am.cons (hc w c (hL.at hk)) (hr.heap hL)
 | _::_,⟨.inr hf,hr⟩=>am.cons (hf w _) (hr.heap hL)
def instK (N:Nat) (Ka:List Nat):List Nat→List Nat
 | []=>[]
 | 0::r=>instK N Ka r
 | 1::r=>Ka++instK N Ka r
 | (k+2)::r=>(N+k)::instK N Ka r
def HA.inst (N:Nat) (Ka:List Nat):HA→HA
 | .tr t e i K xs v=>.tr t e (N+(i - 2)) (instK N Ka K) xs v
 | .pt t e i K xs v m=>.pt t e (N+(i - 2)) (instK N Ka K) xs v m
 | .hol t e i xs v k cs=>.hol t e (N+(i - 2)) xs v k cs
 | .mp i b es=>.mp (N+(i - 2)) b es
 | .rep t K xs v=>.rep t (instK N Ka K) xs v
 | .own t e i K xs v=>.own t e (N+(i - 2)) (instK N Ka K) xs v
 | .box i b cs=>.box (N+(i - 2)) b cs
 | .elem t K x p=>.elem t (instK N Ka K) x p
 | .old w0 S=>.old w0 S
 | .pure p=>.pure p
 | .gl g n cs=>.gl g n cs
def HA.leaves:HA→Bool
 | .tr _ _ i K _ _=>Nat.ble 2 i&&K.all fun k=>Nat.ble 1 k
 | .pt _ _ i K _ _ _=>Nat.ble 2 i&&K.all fun k=>Nat.ble 1 k
 | .hol _ _ i _ _ _ _=>Nat.ble 2 i
 | .mp i _ _=>Nat.ble 2 i
 | .rep _ K _ _=>K.all fun k=>Nat.ble 1 k
 | .own _ _ i K _ _=>Nat.ble 2 i&&K.all fun k=>Nat.ble 1 k
 | .box i _ _=>Nat.ble 2 i
 | .elem _ K _ _=>K.all fun k=>Nat.ble 1 k
 | .old _ _=>false
 | .pure _=>true
 | .gl _ _ _=>false
theorem instK_mem {N:Nat} {Ka:List Nat} : ∀ {K:List Nat} {k:Nat},k+2∈K→N+k∈instK N Ka K
 | 0::r,k,h=>by
  rcases Xb.1 h with h | h
  ·omega
  ·exact instK_mem (K:=r) h
 | 1::r,k,h=>by
  rcases Xb.1 h with h | h
  ·omega
  ·exact X5 _ (instK_mem (K:=r) h)
 | (j+2)::r,k,h=>by
  rcases Xb.1 h with h | h
  ·simp only [instK]; grind
  ·exact Wq _ (instK_mem (K:=r) h)
theorem instK_one {N:Nat} {Ka:List Nat} : ∀ {K:List Nat} {k:Nat},1∈K→k∈Ka→k∈instK N Ka K
 | 0::r,k,h,hk=>by
  rcases Xb.1 h with h | h
  ·omega
  ·exact instK_one (K:=r) h hk
 | 1::r,k,_,hk=>XP _ hk
 | (j+2)::r,k,h,hk=>by
  rcases Xb.1 h with h | h
  ·omega
  ·exact Wq _ (instK_one (K:=r) h hk)
def eh (t:Ty) (e:TypeId) (i:Nat) (K:List Nat) (xs:List t.den) (v:Hd):HA:=match fG e with
 | true=>.tr t e i K xs v
 | false=>.own t e i K xs v
section
variable {t:Ty} {e:TypeId} {i:Nat} {K:List Nat} {xs:List t.den} {v:Hd}
theorem jE (h:fG e=true):eh t e i K xs v = .tr t e i K xs v:=by unfold eh; rw [h]
theorem eD (h:fG e=false):eh t e i K xs v = .own t e i K xs v:=by unfold eh; rw [h]
theorem UR:(eh t e i K xs v).uses=i::K:=by unfold eh; cases fG e <;> rfl
theorem WK :(eh t e i K xs v).ren g=eh t e (g i) (K.map g) xs v:=by unfold eh; cases fG e <;> rfl
theorem yY {N:Nat} :(eh t e i K xs v).inst N Ka=eh t e (N+(i - 2)) (instK N Ka K) xs v:=by unfold eh; cases fG e <;> rfl
theorem vP:(eh t e i K xs v).leaves=(Nat.ble 2 i&&K.all fun k=>Nat.ble 1 k):=by unfold eh; cases fG e <;> rfl
theorem gq {e:Nat} (h:Nat.blt e 1048576=true):fG e=false:=by
 have h1:e+1≤1048576:=Wt h
 cases hb:fG e
 ·rfl
 ·have:1099511627776≤e:=Wt hb
  omega
theorem J9 {c:bD} (h:HA.holds w c (.tr t e i K xs v)):HA.holds w c (.rep t (i::K) xs v):=by
 obtain ⟨d,h⟩:=h
 exact bK.rep (S' := fun b=>c b∈i::K) (fun b (hb:c b=i)=>by grind) (.slice t) _ _ _ _ h
theorem Iqw {c:bD} (h:HA.holds w c (eh t e i K xs v)):HA.holds w c (.rep t (i::K) xs v):=by
 unfold eh at h
 split at h
 ·exact J9 h
 ·exact zP h
theorem sB:D5 (eh t e i K [] ⟨none,0,0⟩):=by
 intro w c
 unfold eh
 split
 ·exact ⟨fun _=>[], .inl ⟨rfl,rfl⟩⟩
 ·exact BW w c
theorem J3 {c c' : bD} {i' : Nat}  (hi : ∀ b,b<w.heap.size→c b=i→c' b=i') (hK : ∀ b,b<w.heap.size→c b∈K→c' b∈K') (h:HA.holds w c (eh t e i K xs v)):HA.holds w c' (eh t e i' K' xs v):=by
 unfold eh at h ⊢
 split at h
 ·exact cM.keep (fun b hb hc=>⟨hi b hb hc,rfl⟩) h
 ·obtain ⟨ys,h1,h2,h3⟩:=h
  exact ⟨ys,h1.mono (bT.keep (fun b hb hc=>⟨hK b hb hc,rfl⟩) t),h2,fun g hg=>hi g (h2.lt g hg) (h3 g hg)⟩
end
end
def TI (P:Program) (t:TypeId) (sz by_:Nat) (z:Value):Prop:=(P.info? t).map (fun i=>(i.zero,i.size,i.bytes))=some (some z,sz,by_)
theorem TI.get {P:Program} {sz:Nat}  (h:TI P t sz by_ z) : ∃ i,P.info? t=some i∧i.zero=some z∧i.size=sz∧i.bytes=by_:=by
 unfold TI at h
 simp_all
def lP:TypeDesc→Bool
 | .struct _=>true
 | .array _ _=>true
 | _=>false
def Un:TypeDesc→Bool
 | .interface _=>true
 | _=>false
section
variable {P:Program} {ρ:dm} {L:List HA} {o:Oper} {N:Nat}
theorem aj2 {x:Operand} {v:Value} (ho:o.op = .move x) (hx:aR ρ x=v):br P ρ o L v:=fun ev w c he _=>by
 subst he; simp [execOp,ho,hx]
theorem XU {x:Operand} {v:Value} (ho:o.op = .assign x) (hx:aR ρ x=v):br P ρ o L v:=fun ev w c he _=>by
 subst he; simp [execOp,ho,hx]
theorem ahx {c x:Operand} {b p q:Bool} (ho:o.op = .pick c x y) (hc:aR ρ c = .bool b) (hx:b=true→aR ρ x = .bool p) (hy:b=false→aR ρ y = .bool q) :
  br P ρ o L (.bool (bif b then p else q)):=fun ev w c he _=>by
 subst he
 cases b
 ·simp [execOp,ho,hc,asBool,hy rfl]
 ·simp [execOp,ho,hc,asBool,hx rfl]
theorem cO {op:BinOp}  {x:Operand} {k k' : IntKind} :(eqGuard op t x y (.int k a) (.int k' b)).run P w = .ok () w:=by
 cases op <;> simp [eqGuard]
theorem ako {x:Operand} {k:IntKind}  (ho:o.op = .binOp .add t x y t') (hx:aR ρ x = .int k a) (hy:aR ρ y = .int k b) :
  br P ρ o L (.int k (k.wrap (a+b))):=fun ev w c he _=>by
 subst he; simp [execOp,ho,hx,hy,cO,binOp,Op.intArith,Result.andThen]
theorem akn {x:Operand} {k:IntKind}  (ho:o.op = .binOp .sub t x y t') (hx:aR ρ x = .int k a) (hy:aR ρ y = .int k b) :
  br P ρ o L (.int k (k.wrap (a - b))):=fun ev w c he _=>by
 subst he; simp [execOp,ho,hx,hy,cO,binOp,Op.intArith,Result.andThen]
theorem akF {x:Operand} {k:IntKind}  (ho:o.op = .binOp .mul t x y t') (hx:aR ρ x = .int k a) (hy:aR ρ y = .int k b) :
  br P ρ o L (.int k (k.wrap (a * b))):=fun ev w c he _=>by
 subst he; simp [execOp,ho,hx,hy,cO,binOp,Op.intArith,Result.andThen]
theorem akW {x:Operand} {k:IntKind}  (ho:o.op = .binOp .quo t x y t') (hx:aR ρ x = .int k a) (hy:aR ρ y = .int k b) (hb:(b==0)=false) :
  br P ρ o L (.int k (k.wrap (a.tdiv b))):=fun ev w c he _=>by
 have : ¬ b=0:=by simpa using hb
 subst he; simp [execOp,ho,hx,hy,cO,binOp,Op.intDiv,Result.andThen,this]
theorem akf {x:Operand} {k:IntKind}  (ho:o.op = .binOp .rem t x y t') (hx:aR ρ x = .int k a) (hy:aR ρ y = .int k b) (hb:(b==0)=false) :
  br P ρ o L (.int k (a.tmod b)):=fun ev w c he _=>by
 have : ¬ b=0:=by simpa using hb
 subst he; simp [execOp,ho,hx,hy,cO,binOp,Op.intDiv,Result.andThen,this]
theorem akD {x:Operand} {k:IntKind}  (ho:o.op = .binOp .lss t x y t') (hx:aR ρ x = .int k a) (hy:aR ρ y = .int k b) :
  br P ρ o L (.bool (decide (a<b))):=fun ev w c he _=>by
 subst he; simp [execOp,ho,hx,hy,cO,binOp,Op.intCmp,Result.andThen]
theorem akE {x:Operand} {k:IntKind}  (ho:o.op = .binOp .leq t x y t') (hx:aR ρ x = .int k a) (hy:aR ρ y = .int k b) :
  br P ρ o L (.bool (decide (a≤b))):=fun ev w c he _=>by
 subst he; simp [execOp,ho,hx,hy,cO,binOp,Op.intCmp,Result.andThen]
theorem akv {x:Operand} {k:IntKind}  (ho:o.op = .binOp .gtr t x y t') (hx:aR ρ x = .int k a) (hy:aR ρ y = .int k b) :
  br P ρ o L (.bool (decide (b<a))):=fun ev w c he _=>by
 subst he; simp [execOp,ho,hx,hy,cO,binOp,Op.intCmp,Result.andThen]
theorem akg {x:Operand} {k:IntKind}  (ho:o.op = .binOp .geq t x y t') (hx:aR ρ x = .int k a) (hy:aR ρ y = .int k b) :
  br P ρ o L (.bool (decide (b≤a))):=fun ev w c he _=>by
 subst he; simp [execOp,ho,hx,hy,cO,binOp,Op.intCmp,Result.andThen]
theorem akK {x:Operand} {k:IntKind}  (ho:o.op = .binOp .eql t x y t') (hx:aR ρ x = .int k a) (hy:aR ρ y = .int k b) :
  br P ρ o L (.bool (a==b)):=fun ev w c he _=>by
 subst he; simp [execOp,ho,hx,hy,cO,binOp,Op.intCmp,Result.andThen]
theorem aj5 {x:Operand} {k:IntKind}  (ho:o.op = .binOp .neq t x y t') (hx:aR ρ x = .int k a) (hy:aR ρ y = .int k b) :
  br P ρ o L (.bool (a != b)):=fun ev w c he _=>by
 subst he; simp [execOp,ho,hx,hy,cO,binOp,Op.intCmp,Result.andThen]
theorem ake {x:Operand} {b:Bool} (ho:o.op = .unOp .not t x) (hx:aR ρ x = .bool b):br P ρ o L (.bool (!b)):=fun ev w c he _=>by
 subst he; simp [execOp,ho,hx,Op.unary]
theorem akb {x:Operand} {k:IntKind}  (ho:o.op = .unOp .neg t x) (hx:aR ρ x = .int k a):br P ρ o L (.int k (k.wrap (0 - a))):=fun ev w c he _=>by
 subst he; simp [execOp,ho,hx,Op.unary,Op.intArith]
theorem aje {s d:TypeId} {x:Operand} {k k' : IntKind} {ds:TypeDesc} (ho:o.op = .convert s d x) (hs:P.underlying s=some ds) (hd:P.underlying d=some (.int k')) (hx:aR ρ x = .int k a) :
  br P ρ o L (.int k' (k'.wrap a)):=fun ev w c he _=>by
 subst he; simp [execOp,ho,hx,convert,run_underlying hs,run_underlying hd,Conv.intToInt,Result.andThen]
theorem Qu {e:TypeId} {x:Operand} {h:Hd} (ho:o.op = .call { callee:=.builtin .len,args:=#[x],argTypes:=#[t] }) (ht:P.underlying t=some (.slice e)) (hx:aR ρ x=h.val) :
  br P ρ o L (.int .i64 h.n):=fun ev w c he _=>by
 subst he; simp [execOp,ho,hx,resolve,invoke,builtin,Builtin.len_,run_underlying ht,goInt,Result.andThen]
theorem afb {c:bD} {t:Ty}  {xs:List t.den} {h:Hd} (hA:HA.holds w c (.rep t K xs h)):h.n=xs.length:=by
 obtain ⟨ys,_,hs,_⟩:=hA; exact hs
theorem V9 {e:TypeId} {x:Operand} {h:Hd} {ty:Ty}  {xs:List ty.den} (k:Nat) (hk:L[k]? = some (.rep ty K xs h))
  (ho:o.op = .call { callee:=.builtin .len,args:=#[x],argTypes:=#[t] }) (ht:P.underlying t=some (.slice e)) (hx:aR ρ x=h.val) :
  br P ρ o L (.int .i64 xs.length):=fun ev w c he hL=>by
 rw [← afb (hL.at hk)]; exact Qu ho ht hx ev w c he hL
theorem akV {ts:Array TypeId} {x:Operand} {k:IntKind} (ho:o.op = .call { callee:=.builtin .max,args:=#[x,y],argTypes:=ts }) (hx:aR ρ x = .int k a) (hy:aR ρ y = .int k b) :
  br P ρ o L (.int k (if b > a then b else a)):=fun ev w c he _=>by
 subst he; simp [execOp,ho,hx,hy,resolve,invoke,builtin,run_max_int2,Result.andThen]
theorem akz {ts:Array TypeId} {x:Operand} {k:IntKind} (ho:o.op = .call { callee:=.builtin .min,args:=#[x,y],argTypes:=ts }) (hx:aR ρ x = .int k a) (hy:aR ρ y = .int k b) :
  br P ρ o L (.int k (if b<a then b else a)):=fun ev w c he _=>by
 subst he; simp [execOp,ho,hx,hy,resolve,invoke,builtin,run_min_int2,Result.andThen]
theorem VO {x:Operand} {v:Value} (ho:o.op = .extract x i) (hx:aR ρ x = .tuple vs.toArray) (hv:vs[i]? = some v):br P ρ o L v:=fun ev w c he _=>by
 subst he; simp [execOp,ho,hx,Instr.extract,hv]
theorem wm {s:TypeId} {x:Operand} {b off fo f:Nat} {sz:Nat}  (ho:o.op = .fieldAddr s x f) (hs:P.underlying s=some (.struct fs)) (hf:fs[f]? = some fd)
  (hi:TI P fd.type sz by_ z) (hz:Nat.beq sz 0=false) (hfo:fd.offset=fo) (hx:aR ρ x = .pointer (some ⟨b,off,none⟩)):br P ρ o L (.pointer (some ⟨b,off+fo,none⟩)):=fun ev w c he _=>by
 subst he
 have htihi:=hi; clear hi
 obtain ⟨i,hi,_,rfl,_⟩:=htihi.get
 have hz' : i.size≠0:=afs hz
 have hadd:(⟨b,off,none⟩:Addr).add fd.offset=⟨b,off+fo,none⟩:=by
  unfold Addr.add; grind
 simp [execOp,ho,hx,Instr.fieldAt,run_underlying hs,hf,Instr.sureAddr,fieldPlace,sizeOf,typeInfo,hi,hz',hadd,Result.andThen]
theorem ng (ht:P.underlying t=some d) (hd:lP d=false):(isAgg t).run P w = .ok false w:=by
 unfold isAgg
 simp only [bind,Sem.run_bind',run_underlying ht,Result.andThen]
 cases d <;> first | rfl | simp [lP] at hd | simp [Un] at hd
theorem xi (ht:P.underlying t=some d) (hd:lP d=true):(isAgg t).run P w = .ok true w:=by
 unfold isAgg
 simp only [bind,Sem.run_bind',run_underlying ht,Result.andThen]
 cases d <;> first | rfl | simp [lP] at hd | simp [Un] at hd
theorem fj (b off n:Nat):(⟨b,off,none⟩:Addr).add n=⟨b,off+n,none⟩:=by
 unfold Addr.add; grind
theorem mQ {b off:Nat} {arr:Array Value}  {fz:Nat×Nat} (hb:w.heap[b]? = some (.cells arr ty fz)):w.cell? ⟨b,off,none⟩=arr[off]? := by
 simp [World.cell?,hb]
theorem vm {a:Addr} {v:Value} (ht:P.underlying t=some d) (hd:lP d=false)
  (hc:w.cell? a=some v):(Instr.loadAt t (.pointer (some a))).run P w = .ok v w:=by
 simp [Instr.loadAt,Instr.sureAddr,loadVar,ng ht hd,hc,Result.andThen]
theorem vI {b off:Nat} {arr:Array Value}  {fz:Nat×Nat} {i:TypeInfo}  (ht:P.underlying t=some d)
  (hd:lP d=true) (hi:P.info? t=some i) (hb:w.heap[b]? = some (.cells arr ty fz)) (hcs:(arr.toList.drop off).take i.size=cs) (hl:cs.length=i.size) :
  (Instr.loadAt t (.pointer (some ⟨b,off,none⟩))).run P w = .ok (.agg cs.toArray) w:=by
 have hload:=run_loadCells_list (P:=P) (w:=w) ⟨b,off,none⟩ cs (fun j v hv=>by
  rw [fj,mQ hb]
  grind)
 rw [hl] at hload
 simp [Instr.loadAt,Instr.sureAddr,loadVar,xi ht hd,sizeOf,typeInfo,hi,hload,Result.andThen]
theorem CI {x:Operand} {b off:Nat}  {v:Value}  (k:Nat) (hk:L[k]? = some (.box i b cs)) (ho:o.op = .load t x) (ht:P.underlying t=some d)
  (hd:lP d=false) (hx:aR ρ x = .pointer (some ⟨b,off,none⟩)) (hv:cs[off]? = some v):br P ρ o L v:=fun ev w c he hL=>by
 subst he
 obtain ⟨⟨ty,hb⟩,_⟩:=hL.at hk
 simp [execOp,ho,hx,vm ht hd (v:=v) (w:=w) (by rw [mQ hb]; simpa using hv),Result.andThen]
theorem MF {x:Operand} {b off:Nat}   {sz:Nat}  (k:Nat) (hk:L[k]? = some (.box i b cs)) (ho:o.op = .load t x) (ht:P.underlying t=some d)
  (hd:lP d=true) (hi:TI P t sz by_ z) (hx:aR ρ x = .pointer (some ⟨b,off,none⟩))
  (hv:(cs.drop off).take sz=cs') (hl:Nat.beq cs'.length sz=true):br P ρ o L (.agg cs'.toArray):=fun ev w c he hL=>by
 subst he
 have htihi:=hi; clear hi
 obtain ⟨inf,hi,_,rfl,_⟩:=htihi.get
 obtain ⟨⟨ty,hb⟩,_⟩:=hL.at hk
 simp [execOp,ho,hx,vI ht hd hi hb (cs:=cs') (off:=off) (by simpa using hv) (Wo hl),Result.andThen]
theorem uf {c:bD} (hN:Nat.ble 2 N=true) (ob:Obj):Stp [] w c (w.alloc ob) (fun b=>if b<w.heap.size then c b else N):=by
 have h2:=Wt hN
 refine .mk0 (by simp) (fun b hb=>by simp [hb]) (fun b hb _=>heap_alloc_old w ob hb) (fun b hb _=>?_) ⟨rfl,rfl⟩
 grind
theorem Vy {a:Act} {ev:Operand→Value} {c:bD} {next:Act→World→Prop} {Q:Exit→Act→World→Prop}   (hN:Nat.ble 2 N=true)
  (hrun:(execOp ev o).run P w = .ok (.value (.pointer (some ⟨w.heap.size,0,none⟩))) (w.alloc (.cells cs.toArray ty)))
  (hk : ∀ (y:Nat) w' c',Stp [] w c w' c' → am w' c' [.box N y cs]→next (a.put o.dst (.pointer (some ⟨y,0,none⟩))) w') :
  o.upon P a next Q ((execOp ev o).run P w):=by
 rw [hrun]
 exact hk w.heap.size _ _ (uf hN _) (am.cons ⟨⟨ty,heap_alloc_new w _⟩,by simp⟩ (am.nil _ _))
theorem Yx {sz:Nat}   (ho:o.op = .alloc t) (hi:TI P t sz by_ z) (hcs:z.cells=cs.toArray) (hN:Nat.ble 2 N=true) :
  c9 P ρ o L [] (fun b:Nat=>.pointer (some ⟨b,0,none⟩)) (fun b=>[.box N b cs]):=fun a ev w c next Q _ _ hk=>by
 have htihi:=hi; clear hi
 obtain ⟨i,hi,hz,_,_⟩:=htihi.get
 exact Vy (ty:=t) hN (by simp [execOp,ho,Instr.alloc,zeroValue,typeInfo,hi,hz,newVar,newRow,hcs]) hk
theorem ajN {x:Operand} {v:Value}  (ho:o.op = .box t x) (hx:aR ρ x=v) (hcs:v.cells=cs.toArray) (hN:Nat.ble 2 N=true) :
  c9 P ρ o L [] (fun b:Nat=>.pointer (some ⟨b,0,none⟩)) (fun b=>[.box N b cs]):=fun a ev w c next Q ha _ hk=>
 Vy (ty:=t) hN (by simp [execOp,ho,ha,hx,Instr.box,newVar,newRow,hcs]) hk
theorem Af {l:List Value} (h:l.all Value.oneCell' = true) : ∀ v∈l,v.oneCell' = true:=W3.1 h
theorem vT (w:World) (g:Nat) (cs:Array Value):(w.setRow g cs).heap.size=w.heap.size:=by simp_all
theorem tY {c:bD} {b:Nat} {cs:Array Value} (hc:c b=i):Stp [i] w c (w.setRow b cs) c:=by
 refine .mk0 (by simp_all) (fun _ _=>rfl) (fun b' hb' hn=>?_) (fun b' h1 h2=>by rw [vT] at h2; omega) ⟨rfl,rfl⟩
 have:b≠b' := fun e=>hn (by grind)
 simp [World.setRow,af4,this]
theorem zz {x:Operand} {b off:Nat}  {v:Value} {sz:Nat} (k:Nat) (hk:L[k]? = some (.box i b cs)) (ho:o.op = .store t x y) (hi:TI P t sz by_ z)
  (hx:aR ρ x = .pointer (some ⟨b,off,none⟩)) (hy:aR ρ y=v) (hv:v.cells=vs.toArray) (hl:Nat.beq vs.length sz=true) (hones:vs.all Value.oneCell' = true)
  (hin:Nat.ble (off+vs.length) cs.length=true) (hcs:cs.take off++vs++cs.drop (off+vs.length)=cs'):c9 P ρ o L [i] (fun _:Unit=>undef) (fun _=>[.box i b cs']):=by
 intro a ev w c next Q ha hL hn
 have htihi:=hi; clear hi
 obtain ⟨inf,hi,_,rfl,_⟩:=htihi.get
 obtain ⟨⟨ty,hb⟩,hc⟩:=hL.at hk
 have hle:=Wt hin
 have hst:=run_storeCells_at P b off ty vs 0 cs.toArray w hb (by grind) (Af hones)
 have hrun:(execOp ev o).run P w = .ok .skip (w.setRow b cs'.toArray):=by
  simp only [Yk] at hst
  simp [execOp,ho,ha,hx,hy,Instr.storeAt,Instr.sureAddr,storeVar,hv,sizeOf,typeInfo,hi,Wo hl,hst,← hcs,Result.andThen]
 rw [hrun]
 have hrow:=setRow_heap w b _ cs'.toArray ty (0,0) hb
 exact hn () _ c (tY hc) (am.cons ⟨⟨ty,hrow⟩,hc⟩ (am.nil _ _))
end
def ac {α:Type} (xs:List α) (i:Int):Option α:=if 0≤i then xs[i.toNat]? else none
theorem nN {xs:List α} {i:Int} {x:α} (h:ac xs i=some x):0≤i∧xs[i.toNat]? = some x∧i.toNat<xs.length:=by
 unfold ac at h
 grind
def facts:(t:Ty)→List Nat→t.den→t.Refs→List HA
 | .one _ _ _,_,_,_=>[]
 | .arr _ _ _ _ _,_,_,_=>[]
 | .unit,_,_,_=>[]
 | .pair a b,K,x,y=>facts a K x.1 y.1++facts b K x.2 y.2
 | .slice t,K,xs,h=>[.rep t K xs h]
 | .node,K,x,h=>[.rep .node K x.tup.2.2.2 h]
 | .mp _ _,_,_,_=>[]
theorem qp {w:World} {c:bD} {K:List Nat}:(t:Ty)→(x:t.den)→(y:t.Refs)→bT w (fun b=>c b∈K) t x y→am w c (facts t K x y)
 | .one _ _ _,_,_,_=>am.nil _ _
 | .arr _ _ _ _ _,_,_,_=>am.nil _ _
 | .unit,_,_,_=>am.nil _ _
 | .pair a b,x,y,h=>(qp a x.1 y.1 h.1).append (qp b x.2 y.2 h.2)
 | .slice _,_,_,h=>am.cons h (am.nil _ _)
 | .node,_,_,h=>am.cons (oF.1 h) (am.nil _ _)
 | .mp _ _,_,_,_=>am.nil _ _
theorem xS {w:World} {c:bD} {K:List Nat}:(t:Ty)→(x:t.den)→(y:t.Refs)→am w c (facts t K x y)→bT w (fun b=>c b∈K) t x y
 | .one _ _ _,_,_,_=>trivial
 | .arr _ _ _ _ _,_,_,_=>trivial
 | .unit,_,_,_=>trivial
 | .pair a b,x,y,h=>⟨xS a x.1 y.1 fun A hA=>h A (XP _ hA),xS b x.2 y.2 fun A hA=>h A (X5 _ hA)⟩
 | .slice t,xs,hd,h=>h (.rep t K xs hd) (by simp [facts])
 | .node,x,hd,h=>oF.2 (h (.rep .node K x.tup.2.2.2 hd) (by simp [facts]))
 | .mp _ _,_,_,_=>trivial
abbrev Ty.nodeT:Ty:=.pair (.one Int (fun x=>.int .i64 x) (fun _=>rfl)) (.pair (.one (List UInt8) (fun x=>.string ⟨x.toArray⟩) (fun _=>rfl)) (.pair (.one Int (fun x=>.int .i64 x) (fun _=>rfl)) (.slice .node)))
inductive Pth:Ty→Ty→Type 1
 | here {t:Ty}:Pth t t
 | fst {a b t:Ty} (p:Pth a t):Pth (.pair a b) t
 | snd {a b t:Ty} (p:Pth b t):Pth (.pair a b) t
 | nd {t:Ty} (p:Pth Ty.nodeT t):Pth .node t
def Pth.get : {t u:Ty}→Pth t u→t.den→u.den
 | _,_, .here,x=>x
 | _,_, .fst p,x=>p.get x.1
 | _,_, .snd p,x=>p.get x.2
 | _,_, .nd p,x=>p.get x.tup
def Pth.set : {t u:Ty}→Pth t u→t.den→u.den→t.den
 | _,_, .here,_,z=>z
 | _,_, .fst p,x,z=>(p.set x.1 z,x.2)
 | _,_, .snd p,x,z=>(x.1,p.set x.2 z)
 | _,_, .nd p,x,z=>Nd.of (p.set x.tup z)
def Pth.refs : {t u:Ty}→Pth t u→t.Refs→u.Refs
 | _,_, .here,x=>x
 | _,_, .fst p,x=>p.refs x.1
 | _,_, .snd p,x=>p.refs x.2
 | _,_, .nd p,h=>p.refs ((),(),(),h)
def Pth.off : {t u:Ty}→Pth t u→Nat
 | _,_, .here=>0
 | _,_, .fst p=>p.off
 | _,_,@Pth.snd a _ _ p=>a.sz+p.off
 | _,_, .nd p=>p.off
theorem Pth.le : {t u:Ty}→(p:Pth t u)→p.off+u.sz≤t.sz
 | _,_, .here=>by simp [Pth.off]
 | _,_, .fst p=>by have:=p.le; simp [Pth.off,Ty.sz]; omega
 | _,_, .snd p=>by have:=p.le; simp [Pth.off,Ty.sz]; omega
 | _,_, .nd p=>p.le
theorem Pth.cells : {t u:Ty}→(p:Pth t u)→(x:t.den)→(y:t.Refs)→((t.fill x y).drop p.off).take u.sz=u.fill (p.get x) (p.refs y)
 | _,u, .here,x,y=>by simp [Pth.off,Pth.get,Pth.refs,← u.fill_length x y]
 | _,u, .fst (a:=a) (b:=b) p,x,y=>by
  have:=p.cells x.1 y.1
  have hl:=p.le
  have h1:=a.fill_length x.1 y.1
  simp only [Pth.off,Ty.fill,Pth.get,Pth.refs]
  grind
 | _,u, .snd (a:=a) (b:=b) p,x,y=>by
  have:=p.cells x.2 y.2
  have h1:=a.fill_length x.1 y.1
  simp only [Pth.off,Ty.fill,Pth.get,Pth.refs]
  rw [YB,X2 (as:=a.fill x.1 y.1) (by omega),show a.sz+p.off - (a.fill x.1 y.1).length=p.off by omega]
  grind
 | _,_, .nd p,x,h=>p.cells x.tup ((),(),(),h)
theorem Pth.rep : {t u:Ty}→(p:Pth t u)→(x:t.den)→(y:t.Refs)→bT w S t x y→bT w S u (p.get x) (p.refs y)
 | _,_, .here,_,_,h=>h
 | _,_, .fst p,x,y,h=>p.rep x.1 y.1 h.1
 | _,_, .snd p,x,y,h=>p.rep x.2 y.2 h.2
 | _,_, .nd p,x,y,h=>p.rep x.tup ((),(),(),y) ⟨trivial,trivial,trivial,oF.1 h⟩
def pY (place:Nat→Option (Nat×Nat)) (cells:List Value):List (Nat×List Value)→Option (List Value)
 | []=>some cells
 | (i,vs)::rest=>match place i with
  | none=>none
  | some (off,size)=>bif Nat.beq vs.length size&&Nat.ble (off+vs.length) cells.length then pY place (cells.take off++vs++cells.drop (off+vs.length)) rest else none
theorem Jj : ∀ (vs:List Value) (k off:Nat) (cs:Array Value),off+k+vs.length≤cs.size →
  (vs.zipIdx k).foldl (fun cs (x:Value×Nat)=>cs.setIfInBounds (off+x.2) x.1) cs=(cs.toList.take (off+k)++vs++cs.toList.drop (off+k+vs.length)).toArray
 | [],k,off,cs,_=>by simp_all
 | v::vs,k,off,cs,h=>by
  simp only [XM] at h
  rw [List.zipIdx_cons,agi,Jj vs (k+1) off _ (by simp; omega)]
  have hl:off+k<cs.toList.length:=by simp; omega
  have ht:(cs.toList.take (off+k)).length=off+k:=by simp; omega
  apply akY
  simp only [Array.toList_setIfInBounds,List.set_eq_take_append_cons_drop,if_pos hl]
  rw [show off+(k+1)=(cs.toList.take (off+k)).length+1 by omega,List.take_length_add_append,age (cs.toList.take (off+k)).length 1 vs.length,List.drop_length_add_append]
  simp only [afN,aeO,Yi,Zr,Yv]
  rw [Nat.add_comm 1 vs.length,aeK,aev]
  grind
theorem zy (place:Nat→Option (Nat×Nat)) (parts:Array (Nat×Operand)) (ρ:dm) : ∀ (vals:List (Nat×List Value)) (zero cells:List Value),
  parts.toList.map (fun p=>(p.1,(aR ρ p.2).cells.toList))=vals→pY place zero vals=some cells →
  Instr.fill place zero.toArray (parts.map fun p=>(p.1,aR ρ p.2)).toList=some cells.toArray:=by
 intro vals zero cells hp h
 have gen : ∀ (ps:List (Nat×Operand)) (vals:List (Nat×List Value)) (zero:List Value),ps.map (fun p=>(p.1,(aR ρ p.2).cells.toList))=vals→pY place zero vals=some cells →
   Instr.fill place zero.toArray (ps.map fun p=>(p.1,aR ρ p.2))=some cells.toArray:=by
  intro ps
  induction ps with
  | nil=>
   intro vals zero hp h
   subst hp
   simp only [aaz,pY,Wn] at h
   subst h
   rfl
  | cons p ps ih=>
   intro vals zero hp h
   subst hp
   simp only [XH,pY] at h
   cases hpl:place p.1 with
   | none=>grind
   | some os=>
    obtain ⟨off,size⟩:=os
    simp only [hpl] at h
    cases hc:Nat.beq (aR ρ p.2).cells.toList.length size&&Nat.ble (off+(aR ρ p.2).cells.toList.length) zero.length
    ·grind
    ·rw [hc] at h
     simp only [Wp] at hc
     have h1:=Wo hc.1
     have h2:=Wt hc.2
     have:=ih _ _ rfl h
     have h1' : (aR ρ p.2).cells.size=size:=by simpa using h1
     have h2' : off+(aR ρ p.2).cells.size≤zero.length:=by simpa using h2
     simp only [XH,Instr.fill,hpl]
     rw [if_neg (by grind)]
     rw [← Array.foldl_toList,Array.toList_zipIdx]
     have hf:=Jj (aR ρ p.2).cells.toList 0 off zero.toArray (by grind)
     grind
 simp_all
section
variable {P:Program} {ρ:dm} {L:List HA} {o:Oper} {N:Nat}
theorem wH {Y:Type} {val:Y→Value} {Φ:Y→List HA} (h : ∀ (ev:Operand→Value) (w:World) (c:bD),ev=aR ρ→am w c L→∃ y,(execOp ev o).run P w = .ok (.value (val y)) w∧am w c (Φ y)):c9 P ρ o L [] val Φ:=by
 intro a ev w c next Q ha hL hk
 obtain ⟨y,hr,hF⟩:=h ev w c ha hL
 rw [hr]
 exact hk y w c (Stp.refl w c) hF
theorem RH {x:Operand}   {f:α→Value} {hf : ∀ x,(f x).oneCell' = true}  {p:Addr} {v:α} (k:Nat) (hk:L[k]? = some (.elem (.one α f hf) K v p)) (ho:o.op = .load t x)
  (ht:P.underlying t=some d) (hd:lP d=false) (hx:aR ρ x = .pointer (some p)):br P ρ o L (f v):=fun ev w c he hL=>by
 subst he
 obtain ⟨y,b,off,arr,ty,fz,rfl,_,hb,hle,hcs,_⟩:=hL.at hk
 have hc:w.cell? ⟨b,off,none⟩=some (f v):=by
  rw [mQ hb]
  have:=XZ (·[0]?) hcs
  simpa [Ty.fill,aew] using this
 simp [execOp,ho,hx,vm ht hd hc]
def uD (t:Ty) (K:List Nat):List t.den→List t.Refs→List HA
 | x::xs,y::ys=>facts t K x y++uD t K xs ys
 | _,_=>[]
theorem Fe {w:World} {c:bD} {K:List Nat} (t:Ty) : ∀ {xs:List t.den} {ys:List t.Refs},xs.length=ys.length→am w c (uD t K xs ys)→cp (bT w (fun b=>c b∈K) t) xs ys
 | [],[],_,_=>trivial
 | x::xs,y::ys,hl,h=>⟨xS t x y fun A hA=>h A (XP _ hA),Fe t (by simpa using hl) fun A hA=>h A (X5 _ hA)⟩
 | [],_::_,hl,_=>by simp at hl
 | _::_,[],hl,_=>by simp at hl
theorem yP {c:bD} {v:Value}  (hi:Nat.ble 2 i=true) (hg:w.grownBy w' v.ownBlock) (hc : ∀ g,v.ownBlock=some g→c g=i):Stp [i] w c w' (fun b=>if b<w.heap.size then c b else i):=by
 refine .mk0 hg.size (fun b hb=>by simp [hb]) (fun b hb hn=>hg.block b hb fun e=>hn ?_) (fun b h1 _=>?_) ⟨hg.os,hg.output⟩
 ·grind
 ·show 2≤if b<w.heap.size then c b else i
  rw [if_neg (by omega)]; simp_all
theorem Dw {c:bD} {h' : Hd}  {v:Value} (hb : ∀ g,h'.val.ownBlock=some g→v.ownBlock=some g∨w.heap.size≤g)
  (hc : ∀ g,v.ownBlock=some g→c g=i) : ∀ g,h'.val.ownBlock=some g→(fun b=>if b<w.heap.size then c b else i) g=i:=by
 grind
theorem DH {e:TypeId} {i:TypeInfo}  (ht:P.underlying t=some (.slice e)) (hi:P.info? e=some i) (hz:i.zero=some z) (hzs:z.cells.size=i.size) (hsz:0<i.size)
  {h:Hd}   (hown:w.ownsRow 0 e i.size h.val n xs) {x:Hd}  {news:List Value} (hl:news.length=m * i.size) (hx:(x.a=none∧m=0∧x.n=0∧x.cap=0)∨∃ a,x.a=some a∧x.n=m∧∀ j u,news[j]? = some u→w.cell? (a.add j)=some u)
  (h1 : ∀ u∈news,u.oneCell' = true) (h63:n+m≤maxLen) (hbytes:(n+m) * i.bytes≤140737488355328) :
  ∃ (h' : Hd) (w' : World),(Builtin.append_ #[t,t] ty #[h.val,x.val]).run P w = .ok h'.val w' ∧ w'.ownsRow 0 e i.size h'.val (n+m) (xs++news)∧w.grownBy w' h.val.ownBlock ∧
   (∀ g,h'.val.ownBlock=some g→h.val.ownBlock=some g∨w.heap.size≤g):=by
 have toHd : ∀ (v' : Value) (w' : World),w'.ownsRow 0 e i.size v' (n+m) (xs++news)→∃ h' : Hd,v' = h'.val:=by
  intro v' w' ho
  rcases ho.2 with ⟨rfl,_⟩ | ⟨g,cap,cur,rfl,_⟩
  ·exact ⟨⟨none,0,0⟩,rfl⟩
  ·exact ⟨⟨some ⟨g,0,none⟩,n+m,cap⟩,rfl⟩
 obtain ⟨xa,xn,xc⟩:=x
 obtain ⟨ha,hn,hcap⟩:=h
 rcases hx with ⟨hxa,rfl,hxn,hxc⟩ | ⟨a,hxa,hxn,hnews⟩
 ·simp only at hxa hxn hxc
  subst hxa hxn hxc
  have hn0:news=[]:=Z1 (by simpa using hl)
  subst hn0
  refine ⟨_,w,run_append_owned_none (P:=P) (w:=w) 0 t ty e i i.size ht hi _ n xs hown,by grind,⟨rfl,rfl,rfl,Xw _,fun _ _ _=>rfl⟩,fun g hg=>.inl hg⟩
 ·simp only at hxa hxn
  subst hxa hxn
  by_cases hroom : ∃ g cap cur,(Hd.val ⟨ha,hn,hcap⟩) = .slice (some ⟨g,0,none⟩) n cap∧w.heap[g]? = some (.cells cur e (0,0))∧n+xn≤cap
  ·obtain ⟨v',w',hr,h2,h3,_⟩:=run_append_own (P:=P) w 0 t ty e i z i.size i.bytes ht hi hz rfl rfl hzs hsz _ n xs hown a xn xc news hl hnews h1 h63 hbytes (afB _)
   obtain ⟨g,cap,cur,hv,hg,hle⟩:=hroom
   have hfit:n * i.size+news.length≤cur.size:=by
    rcases hown.2 with ⟨hv',_⟩ | ⟨g',cap',cur',hv',_,hg',_,_,hcs,_⟩
    ·grind
    ·rw [hv] at hv'
     simp only [Value.slice.injEq,Wn,Addr.mk.injEq,ai3,ai6] at hv'
     obtain ⟨rfl,rfl⟩:=hv'
     rw [hg] at hg'
     simp only [Wn,Obj.cells.injEq,ai3] at hg'
     subst hg'
     rw [hl,hcs,← aaO]; exact Yq _ hle
   have hr2:=run_append_room (P:=P) w t ty e i ht hi g n cap cur hg a xn xc news hl hnews h1 hle hfit
   rw [hv] at hr
   rw [hr2] at hr
   simp only [Result.ok.injEq] at hr
   obtain ⟨rfl,rfl⟩:=hr
   refine ⟨⟨some ⟨g,0,none⟩,n+xn,cap⟩,_,by grind,h2,h3,fun g' hg' => .inl ?_⟩
   rw [hv]; simpa [Value.ownBlock] using hg'
  ·by_cases hnil:(Hd.val ⟨ha,hn,hcap⟩) = .slice none 0 0
   ·have hown' : w.ownsRow w.heap.size e i.size (Hd.val ⟨ha,hn,hcap⟩) n xs:=by
     refine ⟨hown.1, .inl ⟨hnil,?_⟩⟩
     rcases hown.2 with ⟨_,hn⟩ | ⟨g',cap',cur',hv',_⟩
     ·exact hn
     grind
    obtain ⟨v',w',hr,h2,h3,_⟩:=run_append_own (P:=P) w w.heap.size t ty e i z i.size i.bytes ht hi hz rfl rfl hzs hsz _ n xs hown' a xn xc news hl hnews h1 h63 hbytes (Xw _)
    have h2' : w'.ownsRow 0 e i.size v' (n+xn) (xs++news):=⟨h2.1,h2.2.imp id fun ⟨g,cap,cur,hv,_,hrest⟩=>⟨g,cap,cur,hv,afB _,hrest⟩⟩
    obtain ⟨h',rfl⟩:=toHd v' w' h2'
    exact ⟨h',w',hr,h2',h3,fun g hg=>.inr (h2.lt g hg).1⟩
   ·rcases hown.2 with ⟨hv,_⟩ | ⟨g,cap,cur,hv,_,hg,hnc,hcm,hcs,htake⟩
    ·grind
    ·have hgrow:cap<n+xn:=by
      grind
     have holds : ∀ j u,xs[j]? = some u→w.cell? ((⟨g,0,none⟩:Addr).add j)=some u:=hown.cells (g:=g) (by rw [hv]; rfl)
     have hr:=run_append_grow (P:=P) w t ty e i z ht hi hz ⟨g,0,none⟩ n cap xs hown.1 holds a xn xc news hl hnews hgrow (by simp only [maxLen] at h63; omega) (growslice_fits (by omega) hbytes)
     obtain ⟨v',w',hr',h2,h3,_⟩:=run_append_own (P:=P) w 0 t ty e i z i.size i.bytes ht hi hz rfl rfl hzs hsz _ n xs hown a xn xc news hl hnews h1 h63 hbytes (afB _)
     rw [hv] at hr'
     rw [hr] at hr'
     simp only [Result.ok.injEq] at hr'
     obtain ⟨rfl,rfl⟩:=hr'
     refine ⟨⟨some ⟨w.heap.size,0,none⟩,n+xn,_⟩,_,by rw [hv]; exact hr,h2,h3,fun g' hg' => .inr ?_⟩
     simp [Value.ownBlock] at hg'
     omega
theorem CS {e:TypeId} {sz:Nat} {s x:Operand} {ty:Ty}   {xs ys:List ty.den} {h hx:Hd} (j j' : Nat)
  (hj:L[j]? = some (.own ty e ci K xs h)) (A:HA) (hj' : L[j']? = some A) (hA:Ep A (.rep ty K2 ys hx))
  (ho:o.op = .call { callee:=.builtin .append,args:=#[s,x],argTypes:=#[t,t] }) (ht:P.underlying t=some (.slice e)) (hi:TI P e sz by_ z) (hs:sz=ty.sz)
  (hzs:Nat.beq z.cells.size sz=true) (hsz:Nat.ble 1 sz=true) (hse:aR ρ s=h.val) (hxe:aR ρ x=hx.val)
  (hroom:decide ((xs.length+ys.length) * by_≤140737488355328∧xs.length+ys.length≤maxLen)=true) (hci:Nat.ble 2 ci=true) (hK:ty.pureB=true∨(K++K2).all (fun k=>!(Nat.beq k ci))=true) (hK' : K++K2=K') (he:Nat.blt e 1048576=true) :
  c9 P ρ o L [ci] Hd.val (fun h' => [.own ty e ci K' (xs++ys) h']):=by
 intro a ev w c next Q ha hL hk
 have htihi:=hi; clear hi
 obtain ⟨inf,hi,hz,rfl,rfl⟩:=htihi.get
 obtain ⟨rs,hr1,hown,hcol⟩:=hL.at hj
 obtain ⟨rs2,hr2,hn2,hle2,hm2,hc2⟩:=hA w c (hL.at hj')
 obtain ⟨hb,h63⟩:=Yd hroom
 have hl2:=hr2.length
 have hlen:=cT ty hl2
 replace hown:=hown.plain he
 rw [← hs] at hown hlen
 have hsrc:(hx.a=none∧ys.length=0∧hx.n=0∧hx.cap=0)∨∃ a,hx.a=some a∧hx.n=ys.length∧∀ j u,(cellsOf ty ys rs2)[j]? = some u→w.cell? (a.add j)=some u:=by
  rcases hc2 with ⟨h1,h2⟩ | ⟨b,off,arr,tt,fz,h1,hS,hbb,hfit,hcells⟩
  ·cases hxa:hx.a with
   | none=>grind
   | some a=>
    grind
  ·refine .inr ⟨_,h1,hn2,fun j u hu=>?_⟩
   rw [fj,mQ hbb]
   grind
 obtain ⟨h',w',hrun,ho',hg,hblk⟩:=DH (P:=P) (ty:=o.type) ht hi hz (Wo hzs) (Wt hsz) hown hlen hsrc (lj ty) h63 hb
 have hex:(execOp ev o).run P w = .ok (.value h'.val) w' := by
  simp [execOp,ho,ha,hse,hxe,resolve,invoke,builtin,hrun,Result.andThen]
 rw [hex]
 have hst:=yP hci hg hcol
 refine hk h' w' _ hst (am.cons ⟨rs++rs2,?_,?_,Dw hblk hcol⟩ (am.nil _ _))
 ·rcases hK with hp | hK
  ·exact (hr1.mono fun x y _=>bT.pure ty x y hp).append (hr2.mono fun x y _=>bT.pure ty x y hp)
  ·have hno : ∀ k∈K++K2,k∉[ci]:=fun k hk hm=>by
    have:=W3.1 hK k hk
    simp_all
   subst hK'
   exact (hr1.mono (bT.keep (fun b hb hcb=>⟨XP _ ((hst.keeps (K:=K) (fun k hk=>hno k (XP _ hk))) b hb hcb).1,((hst.keeps (K:=K) (fun k hk=>hno k (XP _ hk))) b hb hcb).2⟩) ty)).append
    (hr2.mono (bT.keep (fun b hb hcb=>⟨X5 _ ((hst.keeps (K:=K2) (fun k hk=>hno k (X5 _ hk))) b hb hcb).1,((hst.keeps (K:=K2) (fun k hk=>hno k (X5 _ hk))) b hb hcb).2⟩) ty))
 ·rw [eV ty hr1.length,Wu,← hs]
  exact Aa ho'
theorem VF {e:TypeId} {sz:Nat} {s x:Operand} {ty:Ty}   {xs ys:List ty.den} {h hx:Hd} (j j' : Nat)
  (hj:L[j]? = some (.own ty e ci K xs h)) (A:HA) (hj' : L[j']? = some A) (hA:Ep A (.rep ty K2 ys hx))
  (ho:o.op = .call { callee:=.builtin .append,args:=#[s,x],argTypes:=#[t,t] }) (ht:P.underlying t=some (.slice e)) (hi:TI P e sz by_ z) (hs:sz=ty.sz)
  (hzs:Nat.beq z.cells.size sz=true) (hsz:Nat.ble 1 sz=true) (hse:aR ρ s=h.val) (hxe:aR ρ x=hx.val)
  (hroom:decide ((xs.length+ys.length) * by_≤140737488355328∧xs.length+ys.length≤maxLen)=true) (hci:Nat.ble 2 ci=true) (hK:(K++K2).all (fun k=>!(Nat.beq k ci))=true) (hK' : K++K2=K') (he:Nat.blt e 1048576=true) :
  c9 P ρ o L [ci] Hd.val (fun h' => [.own ty e ci K' (xs++ys) h']):=
 CS j j' hj A hj' hA ho ht hi hs hzs hsz hse hxe hroom hci (.inr hK) hK' he
theorem c9.weaken {Y:Type} {val:Y→Value} {Φ Φ' : Y→List HA} (h:c9 P ρ o L κ val Φ) (hw : ∀ y w c,am w c (Φ y)→am w c (Φ' y)):c9 P ρ o L κ val Φ' :=
 fun a ev w c next Q ha hL hk=>h a ev w c next Q ha hL fun y w' c' hs hF=>hk y w' c' hs (hw y w' c' hF)
theorem Ay {e:TypeId} {sz:Nat} {s x:Operand} {ty:Ty}   {xs ys:List ty.den} {h hx:Hd} (hpure:ty.pureB=true) (j j' : Nat)
  (hj:L[j]? = some (.own ty e ci K xs h)) (A:HA) (hj' : L[j']? = some A) (hA:Ep A (.rep ty K2 ys hx))
  (ho:o.op = .call { callee:=.builtin .append,args:=#[s,x],argTypes:=#[t,t] }) (ht:P.underlying t=some (.slice e)) (hi:TI P e sz by_ z) (hs:sz=ty.sz)
  (hzs:Nat.beq z.cells.size sz=true) (hsz:Nat.ble 1 sz=true) (hse:aR ρ s=h.val) (hxe:aR ρ x=hx.val)
  (hroom:decide ((xs.length+ys.length) * by_≤140737488355328∧xs.length+ys.length≤maxLen)=true) (hci:Nat.ble 2 ci=true) (he:Nat.blt e 1048576=true) :
  c9 P ρ o L [ci] Hd.val (fun h' => [.own ty e ci K (xs++ys) h']):=
 (CS j j' hj A hj' hA ho ht hi hs hzs hsz hse hxe hroom hci (.inl hpure) rfl he).weaken fun _ w c hF=>am.cons (zj hpure w c (hF.at (k:=0) rfl)) (am.nil _ _)
theorem ya {e:TypeId} {sz:Nat} {cells:List Value} {ty:Ty}  {xs:List ty.den} {ys:List ty.Refs}
  (ho:o.op = .buildSlice t n parts) (ht:P.underlying t=some (.slice e)) (hi:TI P e sz by_ z) (_hs:sz=ty.sz) (hsmall:Nat.ble (n * sz) 16777216=true) (h0:Nat.ble 1 (n * sz)=true)
  (hp:parts.toList.map (fun p=>(p.1,(aR ρ p.2).cells.toList))=vals) (hfill:pY (fun i=>some (i * sz,sz)) ((List.range (n * sz)).map (fun j=>z.cells.toList.getD (j % z.cells.toList.length) default)) vals=some cells)
  (hx:Nat.beq xs.length n=true) (hy:Nat.beq ys.length n=true) (hcells:cellsOf ty xs ys=cells) (hpaid:pw L (uD ty K xs ys)) (hN:Nat.ble 2 N=true) :
  c9 P ρ o L [] Hd.val (fun h=>[.own ty e N K xs h]):=by
 intro a ev w c next Q ha hL hk
 have htihi:=hi; clear hi
 obtain ⟨inf,hi,hz,rfl,_⟩:=htihi.get
 have hxl:=Wo hx
 have hyl:=Wo hy
 have hsm:=Wt hsmall
 have hpos:=Wt h0
 have hlen:=cT ty (xs:=xs) (ys:=ys) (by omega)
 have hex:(execOp ev o).run P w = .ok (.value (.slice (some ⟨w.heap.size,0,none⟩) n n)) (w.alloc (.cells cells.toArray e)):=by
  have hsm' : ¬ 16777216<n * inf.size:=by omega
  have hne : ¬ n * inf.size=0:=by omega
  have hfill' := zy _ _ _ _ _ _ hp hfill
  have hzero:(Array.range (n * inf.size)).map (z.cells[· % z.cells.size]!)=((List.range (n * inf.size)).map (fun j=>z.cells.toList.getD (j % z.cells.toList.length) default)).toArray:=by
   grind
  rw [← hzero] at hfill'
  simp only [execOp,ho,ha,Instr.buildSlice,Sem.run_bind,run_underlying ht,sizeOf,typeInfo,zeroValue,run_program,Result.andThen_ok,hi,hz,Sem.run_pure,if_neg hsm',if_neg hne]
  rw [hfill']
  rfl
 rw [hex]
 have hst:=uf (w:=w) (c:=c) hN (.cells cells.toArray e)
 refine hk ⟨some ⟨w.heap.size,0,none⟩,n,n⟩ _ _ hst (am.cons ⟨ys,?_,⟨?_, .inr ⟨w.heap.size,n,cells.toArray,e,(0,0),by rw [hxl],heap_alloc_new w _, .inl ⟨rfl,rfl⟩,by omega,?_,?_,?_⟩⟩,fun g hg=>?_⟩ (am.nil _ _))
 ·exact (Fe ty (by omega) (hpaid.heap hL)).mono (bT.keep (hst.keeps (by simp)) ty)
 ·rw [hlen]
 ·simp only [maxLen]
  have:n≤n * inf.size:=ajl n (Nat.pos_of_ne_zero fun h=>by grind)
  omega
 ·grind
 ·grind
 ·simp [Value.ownBlock] at hg
  grind
theorem Eo {e:TypeId} {sz:Nat} {ty:Ty}  (ho:o.op = .buildSlice t 0 parts) (ht:P.underlying t=some (.slice e)) (hi:TI P e sz by_ z) (hp:parts = #[]) (hN:Nat.ble 2 N=true) :
  c9 P ρ o L [] Hd.val (fun h=>[.own ty e N K [] h]):=by
 intro a ev w c next Q ha hL hk
 have htihi:=hi; clear hi
 obtain ⟨inf,hi,_,_,_⟩:=htihi.get
 have hex:(execOp ev o).run P w = .ok (.value (.slice (some ⟨w.heap.size,0,none⟩) 0 0)) (w.alloc (.cells #[] e)):=by
  simp [execOp,ho,ha,Instr.buildSlice,run_underlying ht,sizeOf,typeInfo,hi,hp,newRow,Instr.fill,Result.andThen]
  grind
 rw [hex]
 have hst:=uf (w:=w) (c:=c) hN (.cells #[] e)
 refine hk ⟨some ⟨w.heap.size,0,none⟩,0,0⟩ _ _ hst (am.cons ⟨[],trivial,⟨by simp [cellsOf], .inr ⟨w.heap.size,0,#[],e,(0,0),rfl,heap_alloc_new w _, .inl ⟨rfl,rfl⟩,by simp,by simp [maxLen],by simp,by simp [cellsOf]⟩⟩,fun g hg=>?_⟩ (am.nil _ _))
 ·simp [Value.ownBlock] at hg
  grind
end
structure OSp:Type 1 where
 ex:Bool
 d:Nat
 pre:List Nat
 Y:Type
 val:Y→Value
 Φ:Y→List HA
 κ:List Nat
 eat:List Nat
 tl:List (Nat×(Y→Value))
def acC {Y:Type} (ρ:dm) (tl:List (Nat×(Y→Value))) (y:Y):Prop:=∀ p∈tl,ρ p.1=p.2 y
def ajg {Y:Type} (ρ:dm) (y:Y):List (Nat×(Y→Value))→dm
 | []=>ρ
 | p::r=>ajg (yf ρ p.1 (p.2 y)) y r
def OSp.ok (s:OSp) (ρ:dm) (w:World) (c:bD):Prop:=(s.ex=true→∃ y,ρ s.d=s.val y∧acC ρ s.tl y∧am w c (s.Φ y))∧(s.ex=false→ρ s.d=undef)
def Ob (P:Program) (o:Oper) (s:OSp) (es:List OSp):List Nat→dm→List HA→Prop
 | [],ρ,L=>c9 P ρ o L s.κ s.val (fun y=>.pure (acC ρ s.tl y)::s.Φ y)
 | j::js,ρ,L=>match es[j]? with
  | none=>False
  | some e=>(e.ex=true→∀ y,Ob P o s es js (yf ρ e.d (e.val y)) (e.Φ y++L))∧(e.ex=false→Ob P o s es js (yf ρ e.d undef) L)
def Fin (R:dm→List HA→Prop) (es:List OSp):List Nat→dm→List HA→Prop
 | [],ρ,L=>R ρ L
 | j::js,ρ,L=>match es[j]? with
  | none=>False
  | some e=>(e.ex=true→∀ y,Fin R es js (ajg (yf ρ e.d (e.val y)) y e.tl) (e.Φ y++L))∧(e.ex=false→Fin R es js (yf ρ e.d undef) L)
def su (o:Oper):List Nat:=(o.after.toList.filter (Region.binds .any)).map (·.on)
def cf (j:Nat) (l:List Nat):Bool:=l.any fun k=>Nat.beq j k
theorem mem_iff {j:Nat} {l:List Nat}:cf j l=true↔j∈l:=by
 simp only [cf,Z0]
 simp_all
def EH (l:List Oper) (cl:List (List Nat)):Bool:=
 (List.range l.length).all fun i=>match l[i]?,cl[i]? with
  | some o,some c=>(su o).all (fun j=>Nat.blt j i)&&c.all fun j=>cf j (su o)||(su o).any fun k=>match cl[k]? with | some ck=>cf j ck | none=>false
  | _,_=>false
def DO (o:Oper) (es:List OSp) (pre:List Nat):Bool:=
 o.op.operands.toList.all fun x=>match x with
  | .tmp t=>!(es.any fun e=>Nat.beq t e.d)||pre.any fun j=>match es[j]? with | some e=>Nat.beq t e.d | none=>false
  | _=>true
def XN (s:OSp) (es:List OSp):Bool:=s.tl.all fun p=>s.pre.any fun j=>match es[j]? with | some e=>Nat.beq p.1 e.d | none=>false
def yz (o:Oper):Bool:=match o.op with | .select .. => false | _=>true
def Yy (n:Nat) (o:Oper) (s:OSp) (es:List OSp) (c:List Nat):Prop:=
 match o.guard with
 | none=>s.ex=true
 | some (j,want)=>cf j c=true∧∃ e b,es[j]? = some e∧Nat.blt e.d n=true∧(∀ y,e.val y = .bool b)∧s.ex=(e.ex&&(b==want))
def PU (n:Nat) (o:Oper) (s:OSp):Prop:=(o.dst=some s.d∧Nat.blt s.d n=true)∨(o.dst=none∧Nat.ble n s.d=true∧∀ y,s.val y=undef)
def zZ (P:Program) (n:Nat) (es:List OSp) (ρ:dm) (B:Nat→List HA):List Oper→List OSp→List (List Nat)→Nat→Prop
 | o::l,s::ss,c::cs,i=>(PU n o s∧yz o=true∧s.pre.all (fun j=>cf j c)=true∧DO o es s.pre=true∧XN s es=true∧Yy n o s es c∧(s.ex=true→Ob P o s es s.pre ρ (B i)))∧zZ P n es ρ B l ss cs (i+1)
 | _,[],_,_=>True
 | _,_,_,_=>False
theorem zZ.at {P:Program} {n:Nat} {es:List OSp} {ρ:dm} {B:Nat→List HA} : ∀ {l:List Oper} {ss:List OSp} {cs:List (List Nat)} {m i:Nat} {o:Oper} {s:OSp},zZ P n es ρ B l ss cs m→l[i]? = some o→ss[i]? = some s →
  ∃ c,cs[i]? = some c∧PU n o s∧yz o=true∧s.pre.all (fun j=>cf j c)=true∧DO o es s.pre=true∧XN s es=true∧Yy n o s es c∧(s.ex=true→Ob P o s es s.pre ρ (B (m+i)))
 | o' :: l,s' :: ss,c' :: cs,m,0,o,s,h,ho,hs=>by
  simp at ho hs; subst ho; subst hs
  exact ⟨c',rfl,h.1⟩
 | o' :: l,s' :: ss,c' :: cs,m,i+1,o,s,h,ho,hs=>by
  simp at ho hs
  obtain ⟨c,hc,hr⟩:=zZ.at h.2 ho hs
  grind
 | _,[],_,_,i,_,_,_,_,hs=>by simp at hs
 | [],s::ss,cs,_,i,_,_,h,_,_=>by grind
 | o::l,s::ss,[],_,i,_,_,h,_,_=>h.elim
def wC (κ eat:List Nat):Nat→List OSp→Prop
 | _,[]=>True
 | k,e::r=>(cf k eat=true∨∀ y,(e.Φ y).all (q9 κ)=true)∧wC κ eat (k+1) r
def Vo (cl:List (List Nat)) (i:Nat):List Nat:=(List.range cl.length).filter fun k=>match cl[k]? with | some c=>cf i c | none=>false
def GQ (es:List OSp) (cl:List (List Nat)):List OSp→Nat→Prop
 | [],_=>True
 | s::r,i=>(s.κ=[]∨wC s.κ (i::(s.eat++Vo cl i)) 0 es)∧GQ es cl r (i+1)
theorem wC.at {κ eat:List Nat} : ∀ {es:List OSp} {k j:Nat} {e:OSp},wC κ eat k es→es[j]? = some e→cf (k+j) eat=true∨∀ y,(e.Φ y).all (q9 κ)=true
 | e' :: r,k,0,e,h,he=>by simp at he; subst he; exact h.1
 | e' :: r,k,j+1,e,h,he=>by
  simp at he
  have:=wC.at h.2 he
  grind
 | [],_,_,_,_,he=>by simp at he
theorem GQ.at {es:List OSp} {cl:List (List Nat)} : ∀ {ss:List OSp} {k i:Nat} {s:OSp},GQ es cl ss k→ss[i]? = some s→s.κ=[]∨wC s.κ ((k+i)::(s.eat++Vo cl (k+i))) 0 es
 | e' :: r,k,0,e,h,he=>by simp at he; subst he; exact h.1
 | e' :: r,k,j+1,e,h,he=>by
  simp at he
  have:=GQ.at h.2 he
  grind
 | [],_,_,_,_,he=>by simp at he
section
variable {P:Program} {n:Nat} {Q:Exit→Act→World→Prop}
def qA (f:Nat→Bool):Nat→Nat
 | 0=>0
 | k+1=>qA f k+cond (f k) 1 0
theorem J7 {f g:Nat→Bool} : ∀ {k:Nat},(∀ j,j<k→f j=g j)→qA f k=qA g k
 | 0,_=>rfl
 | k+1,h=>by simp only [qA,J7 (k:=k) fun j hj=>h j (by omega),h k (by omega)]
theorem Nh {f g:Nat→Bool} {i:Nat} (hf:f i=true) (hg:g i=false) : ∀ {k:Nat},i<k→(∀ j,j<k→j≠i→f j=g j)→qA f k=qA g k+1
 | k+1,hi,h=>by
  simp only [qA]
  by_cases he:i=k
  ·subst he
   rw [J7 (k:=i) fun j hj=>h j (by omega) (by omega),hf,hg]; rfl
  ·rw [Nh hf hg (k:=k) (by omega) fun j hj hne=>h j (by omega) hne,h k (by omega) (by omega)]; omega
theorem JA {f:Nat→Bool} : ∀ {k:Nat},qA f k=0→∀ i,i<k→f i=false
 | k+1,h,i,hi=>by
  simp only [qA] at h
  by_cases he:i=k
  ·grind
  ·exact JA (k:=k) (by omega) i (by omega)
def Fz (listed:Array Bool) (i:Nat):Bool:=!(listed.getD i false)
theorem agn (hcl:EH l cl=true) {k:Nat} (hk:k<l.length) : ∃ c,cl[k]? = some c:=by
 have h:=W3.1 hcl k (aaB.2 hk)
 grind
def IT (l:List Oper) (listed:Array Bool):Prop:=∀ (i:Nat) (o:Oper),l[i]? = some o→listed.getD i false=true→∀ j∈su o,listed.getD j false=true
theorem wo (hcl:EH l cl=true)  (hd:IT l listed) : ∀ (i:Nat) (o:Oper) (c:List Nat),l[i]? = some o→cl[i]? = some c →
  (∀ j∈su o,listed.getD j false=true)→∀ j∈c,listed.getD j false=true:=by
 intro i
 induction i using Nat.strongRecOn with
 | _ i ih=>
  intro o c ho hc hp j hj
  have hlt:i<l.length:=(XW.1 ho).1
  have h:=W3.1 hcl i (aaB.2 hlt)
  simp only [ho,hc,Wp] at h
  have h2:=W3.1 h.2 j hj
  simp only [Ze] at h2
  rcases h2 with h2 | h2
  ·exact hp j (mem_iff.1 h2)
  ·obtain ⟨k,hk,hm⟩:=Z0.1 h2
   have hki:k<i:=Wt (W3.1 h.1 k hk)
   cases hck:cl[k]? with
   | none=>grind
   | some ck=>
    simp only [hck] at hm
    have hkl:k<l.length:=by omega
    exact ih k hki l[k] ck (by simp [hkl]) hck (hd k l[k] (by simp [hkl]) (hp k hk)) j (mem_iff.1 hm)
theorem Ad {j:Nat} (h:i<listed.size):(listed.setIfInBounds i true).getD j false=(Nat.beq j i||listed.getD j false):=by
 by_cases hij:i=j
 ·simp_all
 ·have:Nat.beq j i=false:=by
   cases hb:Nat.beq j i
   ·rfl
   simp_all
  simp_all
theorem xO (hsz:listed.size=l.length)  (h:i∈Region.ready .any l.toArray listed) :
  ∃ o,l[i]? = some o∧listed.getD i false=false∧∀ j∈su o,listed.getD j false=true:=by
 rw [mem_ready] at h
 obtain ⟨h0,o,ho,hall⟩:=h
 have ho' : l[i]? = some o:=by simpa using ho
 have hlt:i<l.length:=(XW.1 ho').1
 refine ⟨o,ho',by grind,fun j hj=>?_⟩
 obtain ⟨e,he,rfl⟩:=W6.1 hj
 grind
theorem Dn (hcl:EH l cl=true)  (hsz:listed.size=l.length) (h:Region.ready .any l.toArray listed=[]) :
  ∀ i,i<l.length→listed.getD i false=true:=by
 intro i
 induction i using Nat.strongRecOn with
 | _ i ih=>
  intro hi
  cases hb:listed.getD i false
  ·exfalso
   have hmem:i∈Region.ready .any l.toArray listed:=by
    rw [mem_ready]
    have ho:l[i]? = some l[i]:=by simp [hi]
    refine ⟨by grind,l[i],by simp [hi],fun e he hbd=>?_⟩
    have hc:=W3.1 hcl i (aaB.2 hi)
    simp only [ho] at hc
    cases hci:cl[i]? with
    | none=>grind
    | some c=>
     simp only [hci,Wp] at hc
     have hlt:e.on<i:=Wt (W3.1 hc.1 e.on (W6.2 ⟨e,ZP.2 ⟨by simpa using he,hbd⟩,rfl⟩))
     grind
   grind
  ·rfl
theorem Jg (hsz:listed.size=l.length) (hd:IT l listed)  {o:Oper} (ho:l[i]? = some o) (hp : ∀ j∈su o,listed.getD j false=true) :
  IT l (listed.setIfInBounds i true):=by
 have hlt:i<l.length:=(XW.1 ho).1
 intro k o' ho' hk j hj
 rw [Ad (by omega)] at hk ⊢
 by_cases hki:k=i
 ·grind
 ·have:Nat.beq k i=false:=by
   cases hb:Nat.beq k i
   ·rfl
   simp_all
  rw [this] at hk
  rw [hd k o' ho' (by simpa using hk) j hj]; simp
def agj (l:List Oper) (cl:List (List Nat)) (p:Nat):Bool:=(List.range l.length).all fun i=>Nat.blt i p||match cl[i]? with | some c=>(List.range i).all fun j=>cf j c | none=>false
theorem Xg {k:Nat} (hk:k<l.length):l.drop k=l[k]::l.drop (k+1):=by simp_all
theorem Vx (hcl:EH l cl=true) {p:Nat} (hseq:agj l cl p=true) (hpl:p≤l.length)
  (J:Array Bool→Act→World→Prop) (hJend : ∀ listed a w,J listed a w→(∀ i,i<p→listed.getD i false=true)→(∀ i,p≤i→listed.getD i false=false)→wpList P l.toArray Q (l.drop p) a w)
  (hJ : ∀ listed a w i o,J listed a w→IT l listed→listed.size=l.length→i<p→l[i]? = some o→listed.getD i false=false→(∀ j∈su o,listed.getD j false=true) →
   wpOp P l.toArray Q i (J (listed.setIfInBounds i true)) a w) :
  ∀ (fuel:Nat) (listed:Array Bool) (a:Act) (w:World),listed.size=l.length→IT l listed→qA (Fz listed) l.length≤fuel →
   ((J listed a w∧∀ i,p≤i→listed.getD i false=false)∨∃ k,p≤k∧k≤l.length∧(∀ i,listed.getD i false=decide (i<k))∧wpList P l.toArray Q (l.drop k) a w) →
   wpAny P .any l.toArray Q fuel listed a w:=by
 intro fuel
 induction fuel with
 | zero=>
  intro listed a w hsz hd hc hst
  have hall : ∀ i,i<l.length→listed.getD i false=true:=fun i hi=>by
   have:=JA (Nat.le_zero.1 hc) i hi
   simpa [Fz] using this
  have hready:Region.ready .any l.toArray listed=[]:=by
   cases hr:Region.ready .any l.toArray listed with
   | nil=>rfl
   | cons x xs=>
    obtain ⟨o,ho,hf,_⟩:=xO hsz (i:=x) (by rw [hr]; simp)
    grind
  refine ⟨hready,?_⟩
  rcases hst with ⟨hj,hrest⟩ | ⟨k,hpk,hkl,hk,hw⟩
  ·have hpe:p=l.length:=by
    rcases XJ p l.length with h | h
    ·grind
    ·omega
   have:=hJend listed a w hj (fun i hi=>hall i (by omega)) hrest
   rw [hpe,aeQ] at this
   exact this
  ·have hke:k=l.length:=by
    rcases XJ k l.length with h | h
    ·grind
    ·omega
   rw [hke,aeQ] at hw
   exact hw
 | succ fuel ih=>
  intro listed a w hsz hd hc hst
  have hst' : (J listed a w∧(∀ i,p≤i→listed.getD i false=false)∧∃ i,i<p∧listed.getD i false=false) ∨
    ∃ k,p≤k∧k≤l.length∧(∀ i,listed.getD i false=decide (i<k))∧wpList P l.toArray Q (l.drop k) a w:=by
   grind
  have hdec : ∀ i,i<l.length→listed.getD i false=false→qA (Fz (listed.setIfInBounds i true)) l.length≤fuel:=by
   intro i hi hf
   have:=Nh (f:=Fz listed) (g:=Fz (listed.setIfInBounds i true)) (i:=i) (by simp [Fz,hf]) (by simp only [Fz]; rw [Ad (by omega)]; simp) hi (fun j _ hne=>by
    simp only [Fz]
    rw [getD_set_ne false (agN hne)])
   omega
  rcases hst' with ⟨hj,hrest,i0,hi0,hf0⟩ | ⟨k,hpk,hkl,hk,hw⟩
  ·refine ⟨fun hr=>absurd (Dn hcl hsz hr i0 (by omega)) (by rw [hf0]; simp),fun i hi=>?_⟩
   obtain ⟨o,ho,hf,hp⟩:=xO hsz hi
   have hlt:i<l.length:=(XW.1 ho).1
   have hip:i<p:=by
    rcases XJ i p with h | h
    ·exact h
    ·exfalso
     have hs:=W3.1 hseq i (aaB.2 hlt)
     have:Nat.blt i p=false:=by
      cases hb:Nat.blt i p
      ·rfl
      ·have:=Wt hb; omega
     rw [this] at hs
     cases hci:cl[i]? with
     | none=>grind
     | some c=>
      simp only [hci,aeF] at hs
      have hm:=W3.1 hs i0 (aaB.2 (by omega))
      have:=wo hcl hd i o c ho hci hp i0 (mem_iff.1 hm)
      grind
   refine wpOp_mono (fun a' w' hj' => ih _ a' w' (by grind) (Jg hsz hd ho hp) (hdec i hlt hf) (.inl ⟨hj',fun j hpj=>?_⟩)) (hJ listed a w i o hj hd hsz hip ho hf hp)
   rw [getD_set_ne false (by omega)]; grind
  ·refine ⟨fun hr=>?_,fun i hi=>?_⟩
   ·have hke:k=l.length:=by
     rcases XJ k l.length with h | h
     ·have:=Dn hcl hsz hr k h; grind
     ·omega
    rw [hke,aeQ] at hw
    exact hw
   ·obtain ⟨o,ho,hf,hp⟩:=xO hsz hi
    have hlt:i<l.length:=(XW.1 ho).1
    have hik:i=k:=by
     rw [hk i] at hf
     have hge:k≤i:=by simpa using hf
     rcases XJ k i with h | h
     ·exfalso
      have hs:=W3.1 hseq i (aaB.2 hlt)
      have:Nat.blt i p=false:=by
       cases hb:Nat.blt i p
       ·rfl
       ·have:=Wt hb; omega
      rw [this] at hs
      cases hci:cl[i]? with
      | none=>grind
      | some c=>
       simp only [hci,aeF] at hs
       have hm:=W3.1 hs k (aaB.2 h)
       have:=wo hcl hd i o c ho hci hp k (mem_iff.1 hm)
       grind
     ·omega
    subst hik
    rw [Xg hlt] at hw
    have hoe:l[i]=o:=by
     grind
    rw [hoe] at hw
    have hnext : ∀ a' w',wpList P l.toArray Q (l.drop (i+1)) a' w' → wpAny P .any l.toArray Q fuel (listed.setIfInBounds i true) a' w' := fun a' w' hw' =>
     ih _ a' w' (by grind) (Jg hsz hd ho hp) (hdec i hlt hf) (.inr ⟨i+1,by omega,by omega,fun j=>by
      rw [Ad (by omega),hk j]
      by_cases hj:j=i
      ·subst hj; simp
      ·have:Nat.beq j i=false:=by
        cases hb:Nat.beq j i
        ·rfl
        ·exact absurd (Wo hb) hj
       grind,hw'⟩)
    unfold wpOp
    rw [show l.toArray[i]? = some o by simpa using ho]
    unfold wpList at hw
    simp only
    split
    ·rename_i hwd
     rw [if_pos hwd] at hw
     exact hw.imp (fun h=>Oper.wp_mono hnext h) id
    grind
theorem UU {ρ:dm} {a:Act} (ha:Rel n ρ a) {j d:Nat} {o:Oper} (ho:l[j]? = some o) (hd:o.dst=some d) (hlt:Nat.blt d n=true) :
  yielded l.toArray a.tmps j=match ρ d with | .bool b=>some b | _=>none:=by
 have hlt' : d<a.tmps.size:=by rw [ha.size]; simp_all
 have hv:=ha.val d
 simp only [yielded,List.getElem?_toArray,ho,f7,hd]
 simp only [aft,Array.getElem?_eq_getElem hlt',aet] at hv ⊢
 grind
theorem Wm {c:bD}:Stp [] w c { w with drawn:=w.drawn+1 } c:=.mk0 (Xw _) (fun _ _=>rfl) (fun _ _ _=>rfl) (fun _ h1 h2=>absurd (Nat.lt_of_le_of_lt h1 h2) (Nat.lt_irrefl _)) ⟨rfl,rfl⟩
theorem yJ (k i:Nat):(Array.replicate k false).getD i false=false:=by
 rw [aft,aiL]; split <;> rfl
theorem Wf (f:Nat→Bool) : ∀ k,qA f k≤k
 | 0=>by simp [qA]
 | k+1=>by
  have:=Wf f k
  simp only [qA]
  grind
end
section
variable {P:Program} {n:Nat} {Q:Exit→Act→World→Prop} {ρ:dm} {L:List HA} {o:Oper}
theorem all_cons {es:List OSp} {s:OSp} {ss:List OSp} {c:List Nat} {cs:List (List Nat)} {B:Nat→List HA}  (Li:List HA) (hB:B i=Li) (h1:PU n o s) (h3:yz o=true) (h4:s.pre.all (fun j=>cf j c)=true) (h5:DO o es s.pre=true) (h5' : XN s es=true)
  (h6:Yy n o s es c) (h7:s.ex=true→Ob P o s es s.pre ρ Li) (h:zZ P n es ρ B l ss cs (i+1)):zZ P n es ρ B (o::l) (s::ss) (c::cs) i:=⟨⟨h1,h3,h4,h5,h5',h6,hB ▸ h7⟩,h⟩
end
abbrev tA (n:Nat) (k:IntKind):Ty:=.arr n Int 0 (Value.int k) (fun _=>rfl)
def xP (n:Nat) (x y:List Int):Bool:=(List.range n).all fun i=>x.getD i 0==y.getD i 0
section
variable {P:Program} {n:Nat} {ρ:dm} {L:List HA} {o:Oper}
def SZ (P:Program):List Field→List (Nat×Nat)→Prop
 | [],[]=>True
 | f::fs,p::ps=>f.offset=p.1∧(∃ by_ z,TI P f.type p.2 by_ z)∧SZ P fs ps
 | _,_=>False
theorem Dv {sz:Nat}   {places:List (Nat×Nat)} {cells:List Value}
  (ho:o.op = .build t parts) (ht:P.underlying t=some (.struct fs)) (hi:TI P t sz by_ z) (hpl:SZ P fs.toList places)
  (hp:parts.toList.map (fun p=>(p.1,(aR ρ p.2).cells.toList))=vals) (hfill:pY (fun j=>places[j]?) z.cells.toList vals=some cells):br P ρ o L (.agg cells.toArray):=fun ev w c he _=>by
 subst he
 have htihi:=hi; clear hi
 obtain ⟨inf,hi,hz,_,_⟩:=htihi.get
 have hm : ∀ (l:List Field) (ps:List (Nat×Nat)),SZ P l ps→(l.mapM (fun f=>do pure (f.offset,← sizeOf f.type):Field→Sem (Nat×Nat))).run P w = .ok ps w:=by
  intro l
  induction l with
  | nil=>intro ps h; cases ps <;> first | rfl | exact h.elim
  | cons f l ih=>
   intro ps h
   cases ps with
   | nil=>exact h.elim
   | cons p ps=>
    obtain ⟨h1,⟨_,_,h2⟩,h3⟩:=h
    obtain ⟨i,hi,_,hs',_⟩:=h2.get
    have hs:(sizeOf f.type).run P w = .ok p.2 w:=by simp [sizeOf,typeInfo,hi,hs']
    simp only [ajV,Sem.run_bind,hs,Result.andThen_ok,Sem.run_pure,ih ps h3,h1]
 have hpl' : (fs.mapM (fun f=>do pure (f.offset,← sizeOf f.type):Field→Sem (Nat×Nat))).run P w = .ok places.toArray w:=by
  rw [aik,Sem.run_map,hm _ _ hpl]
  rfl
 have hfill' := zy (fun j=>places.toArray[j]?) parts ρ vals z.cells.toList cells hp (by grind)
 simp only [Array.toArray_toList] at hfill'
 simp only [execOp,ho,Instr.build,Sem.run_bind,zeroValue,typeInfo,run_program,Result.andThen_ok,hi,hz,Sem.run_pure,run_underlying ht,hpl']
 simp_all
theorem FT {e:TypeId} {k:Nat} {sz esz eby:Nat} {ez:Value} {cells:List Value}
  (ho:o.op = .build t parts) (ht:P.underlying t=some (.array k e)) (hi:TI P t sz by_ z) (he:TI P e esz eby ez)
  (hp:parts.toList.map (fun p=>(p.1,(aR ρ p.2).cells.toList))=vals) (hfill:pY (fun j=>some (j * esz,esz)) z.cells.toList vals=some cells):br P ρ o L (.agg cells.toArray):=fun ev w c hev _=>by
 subst hev
 have htihi:=hi; clear hi
 obtain ⟨inf,hi,hz,_,_⟩:=htihi.get
 have htihe:=he; clear he
 obtain ⟨einf,he,_,rfl,_⟩:=htihe.get
 have hfill' := zy (fun j=>some (j * einf.size,einf.size)) parts ρ vals z.cells.toList cells hp hfill
 simp only [Array.toArray_toList] at hfill'
 simp only [execOp,ho,Instr.build,Sem.run_bind,zeroValue,typeInfo,run_program,Result.andThen_ok,hi,hz,Sem.run_pure,run_underlying ht,sizeOf,he]
 simp_all
def Bb (tmps:Array Value):ResultVar→Sem Value
 | .tmp t=>pure (tmps.getD t undef)
 | .cell x t=>do loadVar t (← asAddr (tmps.getD x undef))
def H7 (P:Program) (ρ:dm) (L:List HA) (r:ResultVar) (v:Value):Prop:=∀ (a:Act) (w:World) (c:bD),(∀ t,a.tmps.getD t undef=ρ t)→am w c L→(Bb a.tmps r).run P w = .ok v w
theorem ah9 {t:Tmp} {v:Value} (h:ρ t=v):H7 P ρ L (.tmp t) v:=fun a w _ ha _=>by simp only [Bb,ha,h]; rfl
theorem WA {x:Tmp} {b:Nat}  {v:Value} (k:Nat) (hk:L[k]? = some (.box i b cs)) (ht:P.underlying t=some d)
  (hd:lP d=false) (hx:ρ x = .pointer (some ⟨b,0,none⟩)) (hv:cs[0]? = some v):H7 P ρ L (.cell x t) v:=fun a w c ha hL=>by
 obtain ⟨⟨ty,hb⟩,_⟩:=hL.at hk
 simp only [Bb,ha,hx]
 simp [asAddr,loadVar,ng ht hd,mQ hb,hv,Result.andThen]
theorem ZC {x:Tmp} {b:Nat}  {sz:Nat}  (k:Nat) (hk:L[k]? = some (.box i b cs)) (ht:P.underlying t=some d)
  (hd:lP d=true) (hi:TI P t sz by_ z) (hx:ρ x = .pointer (some ⟨b,0,none⟩)) (hl:Nat.beq cs.length sz=true):H7 P ρ L (.cell x t) (.agg cs.toArray):=fun a w c ha hL=>by
 have htihi:=hi; clear hi
 obtain ⟨inf,hi,_,rfl,_⟩:=htihi.get
 obtain ⟨⟨ty,hb⟩,_⟩:=hL.at hk
 have hl' := Wo hl
 have hload:=run_loadCells_list (P:=P) (w:=w) ⟨b,0,none⟩ cs (fun j v hv=>by
  rw [fj,mQ hb]; simpa using hv)
 rw [hl'] at hload
 simp only [Bb,ha,hx]
 simp [asAddr,loadVar,xi ht hd,sizeOf,typeInfo,hi,hload,Result.andThen]
def RF (P:Program) (ρ:dm) (L:List HA):List ResultVar→List Value→Prop
 | [],[]=>True
 | r::rs,v::vs=>H7 P ρ L r v∧RF P ρ L rs vs
 | _,_=>False
theorem JZ {a:Act} {w:World} {c:bD} (ha : ∀ t,a.tmps.getD t undef=ρ t) (hL:am w c L) : ∀ {rs:List ResultVar} {vs:List Value},RF P ρ L rs vs→(rs.mapM (Bb a.tmps)).run P w = .ok vs w
 | [],[],_=>rfl
 | r::rs,v::vs,⟨h1,h2⟩=>by
  simp only [ajV,Sem.run_bind,h1 a w c ha hL,Result.andThen_ok,JZ ha hL h2,Sem.run_pure]
 | [],_::_,h=>h.elim
 | _::_,[],h=>h.elim
theorem AZ {fn:Func} {rs:List ResultVar} (h:fn.results=rs.toArray) {a:Act}  {c:bD} (ha : ∀ t,a.tmps.getD t undef=ρ t) (hL:am w c L) (hr:RF P ρ L rs vs) :
  (results fn a.tmps).run P w = .ok (if h:vs.toArray.size=1 then vs.toArray[0] else .tuple vs.toArray) w:=by
 have he:results fn a.tmps=(do let vs ← fn.results.mapM (Bb a.tmps); pure (if h:vs.size=1 then vs[0] else .tuple vs)):=by
  rfl
 rw [he,h]
 simp only [Sem.run_bind]
 rw [show (Array.mapM (Bb a.tmps) rs.toArray).run P w = .ok vs.toArray w by rw [aik,Sem.run_map]; simp only [JZ ha hL hr]; rfl]
 rfl
theorem Dm (d:Nat) {e:TypeId}  {k:IntKind} {i:TypeInfo} (x y:List Int) (ht:P.underlying t=some (.array m e)) (he:P.underlying e=some (.int k)) (hi:P.info? e=some i) (hs:i.size=1) :
  (Op.equalIn (d+2) t (.agg ((tA m k).fill x ()).toArray) (.agg ((tA m k).fill y ()).toArray)).run P w = .ok (xP m x y) w:=by
 rw [run_equalIn_array (P:=P) w (d+1) _ _ ht hi]
 have hc:P.cellsOf e=1:=by simp [Program.cellsOf,hi,hs]
 have gen : ∀ is:List Nat,(∀ j∈is,j<m)→(Op.eqItems (d+1) e (P.cellsOf e) ((tA m k).fill x ()).toArray ((tA m k).fill y ()).toArray is).run P w = .ok (is.all fun i=>x.getD i 0==y.getD i 0) w:=by
  intro is
  induction is with
  | nil=>intro _; rfl
  | cons j is ih=>
   intro hj
   have hjm:j<m:=hj j (by simp)
   have hx:(part e ((tA m k).fill x ()).toArray (j * P.cellsOf e)).run P w = .ok (.int k (x.getD j 0)) w:=by
    simp [part,ng he rfl,hc,Ty.fill,hjm,Result.andThen]
   have hy:(part e ((tA m k).fill y ()).toArray (j * P.cellsOf e)).run P w = .ok (.int k (y.getD j 0)) w:=by
    simp [part,ng he rfl,hc,Ty.fill,hjm,Result.andThen]
   simp only [Op.eqItems,Sem.run_bind,hx,hy,Result.andThen_ok,run_equalIn_int w d e k k _ _ he,aas]
   have ih' := ih fun j' hj' => hj j' (by simp [hj'])
   cases hb:(x.getD j 0==y.getD j 0)
   ·simp
   ·simp [ih']
 exact gen _ fun j hj=>by simpa using hj
theorem Us {e:TypeId} {a b:Operand} {k:IntKind}   {x y:List Int} (ho:o.op = .binOp .eql t a b t') (ht:P.underlying t=some (.array m e)) (he:P.underlying e=some (.int k)) (hi:TI P e 1 by_ z)
  (hg:P.eqGuardType P.depth t=false) (hx:aR ρ a = .agg ((tA m k).fill x ()).toArray) (hy:aR ρ b = .agg ((tA m k).fill y ()).toArray):br P ρ o L (.bool (xP m x y)):=fun ev w c hev _=>by
 subst hev
 have htihi:=hi; clear hi
 obtain ⟨i,hi,_,hs,_⟩:=htihi.get
 have h1:(eqGuard .eql t a b (.agg ((tA m k).fill x ()).toArray) (.agg ((tA m k).fill y ()).toArray)).run P w = .ok () w:=run_eqGuard_agg w .eql t a b _ _ hg
 have h2:(binOp .eql t (.agg ((tA m k).fill x ()).toArray) (.agg ((tA m k).fill y ()).toArray)).run P w = .ok (.bool (xP m x y)) w:=by
  rw [run_eql_struct,Dm 9998 x y ht he hi hs]; rfl
 simp only [execOp,ho,hx,hy,Sem.run_bind,h1,h2,Result.andThen_ok,Sem.run_pure]
theorem Xp {x:Operand} {f:Nat}     {v:Value} (ho:o.op = .field t x f) (ht:P.underlying t=some (.struct fs)) (hf:fs[f]? = some fd)
  (hu:P.underlying fd.type=some d) (hd:lP d=false) (hx:aR ρ x = .agg cs.toArray) (hv:cs[fd.offset]? = some v):br P ρ o L v:=fun ev w c he _=>by
 subst he
 simp [execOp,ho,hx,Instr.field,run_underlying ht,hf,asAgg,part,ng hu hd,hv,Result.andThen]
theorem YR {x:Operand} {f:Nat}     {sz:Nat}  (ho:o.op = .field t x f) (ht:P.underlying t=some (.struct fs)) (hf:fs[f]? = some fd)
  (hu:P.underlying fd.type=some d) (hd:lP d=true) (hi:TI P fd.type sz by_ z) (hx:aR ρ x = .agg cs.toArray) (hv:(cs.drop fd.offset).take sz=cs') :
  br P ρ o L (.agg cs'.toArray):=fun ev w c he _=>by
 subst he
 have htihi:=hi; clear hi
 obtain ⟨inf,hi,_,rfl,_⟩:=htihi.get
 simp [execOp,ho,hx,Instr.field,run_underlying ht,hf,asAgg,part,xi hu hd,sizeOf,typeInfo,hi,hv,Result.andThen]
abbrev ad (n:Int):Int:=IntKind.i64.wrap n
def aK (m k b:Nat):Bool:=decide ((m+k) * b≤140737488355328∧m+k≤maxLen)
def af {α:Type} (b:Bool) (m:Option α):Option α:=bif b then m else none
theorem JG {b:Bool} {m:Option α} {r:α} (h:af b m=some r):b=true∧m=some r:=by
 cases b
 ·cases h
 ·exact ⟨rfl,h⟩
end
end Go.Sm
