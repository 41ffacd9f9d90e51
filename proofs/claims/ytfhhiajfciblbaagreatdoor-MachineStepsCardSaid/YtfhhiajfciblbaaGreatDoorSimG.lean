/- Laws for the row. No condition. -/
import Derived.WalkKit
import Derived.Orders
import Derived.LoopN
import Derived.Laws.AppendOwnNone
import Derived.Laws.MakeOwn
import Derived.ChangeKeysEq
namespace Go.Sm
variable {w w':World} {t t' ty:TypeId} {i by_ n m ci:Nat} {z:Value} {y:Operand} {a b:Int} {K κ K' Ka K2:List Nat} {cs xs vs cs':List Value} {d:TypeDesc} {l:List Oper} {S S':Nat→Prop} {listed:Array Bool} {α:Type} {fs:Array Field} {parts:Array (Nat×Operand)} {cl:List (List Nat)} {g:Nat→Nat} {fd:Field} {vals:List (Nat×List Value)}
abbrev aev:=@Array.ext'
abbrev adc:=@Array.getD_eq_getD_getElem?
abbrev XD:=@Array.getElem?_eq_some_iff
abbrev aeR:=@Array.getElem?_modify
abbrev afB:=@Array.getElem?_push
abbrev ais:=@Array.getElem?_replicate
abbrev aeL:=@Array.getElem?_setIfInBounds
abbrev afA:=@Array.length_toList
abbrev ahN:=@Array.mapM_eq_mapM_toList
abbrev afx:=@Array.toList_modify
abbrev agK:=@Array.toList_push
abbrev af5:=@Array.toList_setIfInBounds
abbrev ZU:=@Bool.and_eq_false_iff
abbrev Vf:=@Bool.and_eq_true
abbrev ajC:=@Bool.and_false
abbrev ada:=@Bool.and_self
abbrev aeu:=@Bool.and_true
abbrev ajz:=@Bool.eq_iff_iff
abbrev afE:=@Bool.false_and
abbrev XV:=@Bool.false_eq_true
abbrev adH:=@Bool.false_or
abbrev X8:=@Bool.not_eq_true'
abbrev Wn:=@Bool.not_false
abbrev WM:=@Bool.not_true
abbrev Ys:=@Bool.or_eq_false_iff
abbrev Yi:=@Bool.or_eq_true
abbrev agv:=@Bool.or_false
abbrev afq:=@Bool.or_true
abbrev afa:=@Bool.true_and
abbrev ahR:=@Decidable.byContradiction
abbrev ad0:=@Int.le_refl
abbrev adv:=@Int.lt_irrefl
abbrev ad8:=@Int.tmod_eq_emod_of_nonneg
abbrev VY:=@Int.toNat_natCast
abbrev YS:=@Int.zero_add
abbrev adz:=@List.Perm.refl
abbrev ZN:=@List.all_cons
abbrev Vx:=@List.all_eq_true
abbrev agF:=@List.any_cons
abbrev aeI:=@List.any_eq_false
abbrev ac6:=@List.any_eq_true
abbrev V8:=@List.append_assoc
abbrev Wm:=@List.append_nil
abbrev ad6:=@List.cons.injEq
abbrev YB:=@List.cons_append
abbrev aeW:=@List.dropLast_concat
abbrev W6:=@List.drop_append
abbrev ady:=@List.drop_drop
abbrev aef:=@List.drop_eq_getElem_cons
abbrev Wq:=@List.drop_eq_nil_of_le
abbrev ajB:=@List.drop_left
abbrev adM:=@List.drop_length
abbrev adL:=@List.drop_succ_cons
abbrev adQ:=@List.drop_take
abbrev Yw:=@List.drop_zero
abbrev Ya:=@List.eq_nil_of_length_eq_zero
abbrev ajv:=@List.eq_of_mem_replicate
abbrev Zl:=@List.ext_getElem?
abbrev adK:=@List.filter_cons_of_neg
abbrev ZV:=@List.filter_cons_of_pos
abbrev ahM:=@List.foldl_append
abbrev aeY:=@List.foldl_cons
abbrev WT:=@List.getD_eq_getElem?_getD
abbrev afi:=@List.getElem?_append
abbrev Yq:=@List.getElem?_append_left
abbrev Yf:=@List.getElem?_append_right
abbrev aep:=@List.getElem?_cons_succ
abbrev ZC:=@List.getElem?_cons_zero
abbrev Xl:=@List.getElem?_drop
abbrev XY:=@List.getElem?_eq_getElem
abbrev adx:=@List.getElem?_eq_none
abbrev VN:=@List.getElem?_eq_some_iff
abbrev Zc:=@List.getElem?_map
abbrev aa7:=@List.getElem?_range
abbrev aer:=@List.getElem?_replicate
abbrev ahg:=@List.getElem?_set
abbrev Yr:=@List.getElem?_set_ne
abbrev W5:=@List.getElem?_set_self
abbrev Xc:=@List.getElem?_take
abbrev ae4:=@List.headD_cons
abbrev ajs:=@List.isEmpty_iff
abbrev Vs:=@List.length_append
abbrev Ws:=@List.length_cons
abbrev XZ:=@List.length_drop
abbrev abn:=@List.length_map
abbrev ae6:=@List.length_range
abbrev Zi:=@List.length_replicate
abbrev XE:=@List.length_set
abbrev Vp:=@List.length_singleton
abbrev V7:=@List.length_take
abbrev ajA:=@List.mapM_cons
abbrev Ym:=@List.map_append
abbrev ZI:=@List.map_congr_left
abbrev WD:=@List.map_cons
abbrev afI:=@List.map_id
abbrev ad1:=@List.map_map
abbrev Zy:=@List.map_nil
abbrev Wc:=@List.mem_append
abbrev Ww:=@List.mem_append_left
abbrev WQ:=@List.mem_append_right
abbrev Wd:=@List.mem_cons
abbrev Vi:=@List.mem_cons_of_mem
abbrev VU:=@List.mem_cons_self
abbrev Yc:=@List.mem_filter
abbrev aju:=@List.mem_flatMap
abbrev ZG:=@List.mem_iff_getElem
abbrev afd:=@List.mem_iff_getElem?
abbrev VO:=@List.mem_map
abbrev aeT:=@List.mem_of_getElem?
abbrev afk:=@List.mem_of_mem_take
abbrev ZH:=@List.mem_or_eq_of_mem_set
abbrev Y0:=@List.mem_range
abbrev Vt:=@List.mem_singleton
abbrev XI:=@List.nil_append
abbrev afr:=@List.nodup_cons
abbrev aeh:=@List.not_mem_nil
abbrev X0:=@List.pairwise_cons
abbrev ajx:=@List.pairwise_singleton
abbrev adl:=@List.replicate_succ
abbrev aeg:=@List.replicate_succ'
abbrev ae5:=@List.set_set
abbrev adb:=@List.size_toArray
abbrev ajE:=@List.take_add
abbrev ahC:=@List.take_add_one
abbrev X9:=@List.take_append
abbrev acG:=@List.take_append_drop
abbrev aft:=@List.take_append_of_le_length
abbrev adT:=@List.take_length
abbrev WF:=@List.take_of_length_le
abbrev aeo:=@List.take_succ_cons
abbrev aaY:=@List.take_take
abbrev ZS:=@List.take_zero
abbrev adu:=@Nat.add_assoc
abbrev YN:=@Nat.add_mul
abbrev W4:=@Nat.add_zero
abbrev Wo:=@Nat.ble_eq_true_of_le
abbrev Vb:=@Nat.eq_of_beq_eq_true
abbrev afL:=@Nat.eq_zero_or_pos
abbrev ajw:=@Nat.le_mul_of_pos_right
abbrev Vg:=@Nat.le_of_ble_eq_true
abbrev Wb:=@Nat.le_refl
abbrev aeM:=@Nat.le_trans
abbrev ajD:=@Nat.lt_irrefl
abbrev aeB:=@Nat.lt_or_eq_of_le
abbrev WG:=@Nat.lt_or_ge
abbrev ahm:=@Nat.lt_trichotomy
abbrev YG:=@Nat.min_eq_left
abbrev XQ:=@Nat.mul_le_mul_right
abbrev ac9:=@Nat.mul_one
abbrev adW:=@Nat.ne_of_beq_eq_false
abbrev ae8:=@Nat.one_mul
abbrev ad2:=@Nat.sub_self
abbrev afp:=@Nat.sub_zero
abbrev YK:=@Nat.zero_add
abbrev adq:=@Nat.zero_le
abbrev ahZ:=@Ne.symm
abbrev Yg:=@Option.bind_eq_some_iff
abbrev f7:=@Option.bind_some
abbrev adN:=@Option.getD_some
abbrev adE:=@Option.isSome_iff_exists
abbrev XT:=@Option.map_eq_some_iff
abbrev ad4:=@Option.map_some
abbrev aez:=@Option.some.inj
abbrev Va:=@Option.some.injEq
abbrev VI:=@Prod.mk.injEq
abbrev ajt:=@and_self
abbrev ajq:=@and_true
abbrev WW:=@beq_eq_false_iff_ne
abbrev aag:=@beq_iff_eq
abbrev V9:=@beq_self_eq_true
abbrev Yy:=@bne_self_eq_false
abbrev no:=@cond_false
abbrev f9:=@cond_true
abbrev Xw:=@congrArg
abbrev aat:=@decide_eq_decide
abbrev ajy:=@decide_eq_false
abbrev YH:=@decide_eq_false_iff_not
abbrev adU:=@decide_eq_true
abbrev YW:=@decide_eq_true_eq
abbrev afZ:=@decide_eq_true_iff
abbrev Yv:=@decide_false
abbrev YD:=@decide_true
abbrev WE:=@if_false
abbrev We:=@if_true
abbrev aeE:=@not_false_eq_true
abbrev Xg:=@of_decide_eq_true
abbrev ah9:=@or_false
abbrev ajr:=@true_and
structure Hd where
 a:Option Addr
 n:Nat
 cap:Nat
abbrev Hd.val (h:Hd):Value:=.slice h.a h.n h.cap
def Hd.blk (h:Hd):Nat:=match h.a with
 | some ⟨b,_,_⟩=>b
 | none=>0
inductive Nd
 | mk (kind:Int) (text:List UInt8) (n:Int) (kids:List Nd)
def Nd.tup:Nd→Int×List UInt8×Int×List Nd
 | .mk k t n l=>(k,t,n,l)
def Nd.of (v:Int×List UInt8×Int×List Nd):Nd:=.mk v.1 v.2.1 v.2.2.1 v.2.2.2
def Nd.fill (x:Nd) (h:Hd):List Value:=[.int .i64 x.tup.1, .string ⟨x.tup.2.1.toArray⟩, .int .i64 x.tup.2.2.1,h.val]
def uS:List Nd→List Hd→List Value
 | x::xs,y::ys=>x.fill y++uS xs ys
 | _,_=>[]
inductive Ty:Type 1
 | one (α:Type) (f:α→Value) (h : ∀ x,(f x).oneCell' = true)
 | arr (n:Nat) (α:Type) (d:α) (f:α→Value) (h : ∀ x,(f x).oneCell' = true)
 | unit
 | pair (a b:Ty)
 | slice (t:Ty)
 | node
 | mp (k v:Ty)
abbrev Ty.den:Ty→Type
 | .one α _ _=>α
 | .arr _ α _ _ _=>List α
 | .unit=>Unit
 | .pair a b=>a.den×b.den
 | .slice t=>List t.den
 | .node=>Nd
 | .mp k v=>List (k.den×v.den)
abbrev Ty.sz:Ty→Nat
 | .one _ _ _=>1
 | .arr n _ _ _ _=>n
 | .unit=>0
 | .pair a b=>a.sz+b.sz
 | .slice _=>1
 | .node=>4
 | .mp _ _=>1
abbrev Ty.Refs:Ty→Type
 | .one _ _ _=>Unit
 | .arr _ _ _ _ _=>Unit
 | .unit=>Unit
 | .pair a b=>a.Refs×b.Refs
 | .slice _=>Hd
 | .node=>Hd
 | .mp _ _=>Hd
def Ty.fill:(t:Ty)→t.den→t.Refs→List Value
 | .one _ f _,x,_=>[f x]
 | .arr n _ d f _,x,_=>(List.range n).map fun i=>f (x.getD i d)
 | .unit,_,_=>[]
 | .pair a b,x,y=>a.fill x.1 y.1++b.fill x.2 y.2
 | .slice _,_,h=>[h.val]
 | .node,x,h=>x.fill h
 | .mp _ _,_,h=>[.map (some (Hd.blk h))]
theorem Ty.fill_length:(t:Ty)→(x:t.den)→(y:t.Refs)→(t.fill x y).length=t.sz
 | .one _ _ _,_,_=>rfl
 | .arr _ _ _ _ _,_,_=>by simp [Ty.fill,Ty.sz]
 | .unit,_,_=>rfl
 | .pair a b,x,y=>by simp [Ty.fill,Ty.sz,a.fill_length,b.fill_length]
 | .slice _,_,_=>rfl
 | .node,_,_=>rfl
 | .mp _ _,_,_=>rfl
def bX {α β:Type} (R:α→β→Prop):List α→List β→Prop
 | [],[]=>True
 | x::xs,y::ys=>R x y∧bX R xs ys
 | _,_=>False
def cellsOf (t:Ty):List t.den→List t.Refs→List Value
 | x::xs,y::ys=>t.fill x y++cellsOf t xs ys
 | _,_=>[]
def Sl (w:World) (S:Nat→Prop) (sz:Nat) (h:Hd) (n:Nat) (cells:List Value):Prop:=
 h.n=n∧n≤h.cap∧h.cap≤maxLen∧((True∧h.cap=0)∨∃ b off arr ty fz,h.a=some ⟨b,off,none⟩∧S b ∧
  w.heap[b]? = some (.cells arr ty fz)∧off+h.cap * sz≤arr.size∧(arr.toList.drop off).take (n * sz)=cells)
mutual
def qu (w:World) (S:Nat→Prop):Nd→Hd→Prop
 | .mk _ _ _ kids,h=>∃ ys:List Hd,iS w S kids ys∧Sl w S 4 h kids.length (uS kids ys)
def iS (w:World) (S:Nat→Prop):List Nd→List Hd→Prop
 | [],[]=>True
 | x::xs,y::ys=>qu w S x y∧iS w S xs ys
 | _,_=>False
end
def bM (w:World) (S:Nat→Prop):(t:Ty)→t.den→t.Refs→Prop
 | .one _ _ _,_,_=>True
 | .arr _ _ _ _ _,_,_=>True
 | .unit,_,_=>True
 | .pair a b,x,y=>bM w S a x.1 y.1∧bM w S b x.2 y.2
 | .slice t,xs,v=>∃ ys:List t.Refs,bX (bM w S t) xs ys∧Sl w S t.sz v xs.length (cellsOf t xs ys)
 | .node,x,h=>qu w S x h
 | .mp _ _,_,_=>True
def Ty.pureB:Ty→Bool
 | .one _ _ _=>true
 | .arr _ _ _ _ _=>true
 | .unit=>true
 | .pair a b=>a.pureB&&b.pureB
 | .slice _=>false
 | .node=>false
 | .mp _ _=>false
theorem bM.pure {w:World} {S:Nat→Prop}:(t:Ty)→(x:t.den)→(y:t.Refs)→t.pureB=true→bM w S t x y
 | .one _ _ _,_,_,_=>trivial
 | .arr _ _ _ _ _,_,_,_=>trivial
 | .unit,_,_,_=>trivial
 | .pair a b,x,y,h=>by
  simp only [Ty.pureB,Vf] at h
  exact ⟨bM.pure a x.1 y.1 h.1,bM.pure b x.2 y.2 h.2⟩
 | .slice _,_,_,h=>by cases h
 | .node,_,_,h=>by cases h
 | .mp _ _,_,_,h=>by cases h
theorem bX.mono {α β:Type} {R R' : α→β→Prop} (h : ∀ x y,R x y→R' x y) : ∀ {xs:List α} {ys:List β},bX R xs ys→bX R' xs ys
 | [],[],_=>trivial
 | _::_,_::_,⟨h1,h2⟩=>⟨h _ _ h1,bX.mono h h2⟩
 | [],_::_,hh=>hh
 | _::_,[],hh=>hh
theorem bX.length {α β:Type} {R:α→β→Prop} : ∀ {xs:List α} {ys:List β},bX R xs ys→xs.length=ys.length
 | [],[],_=>rfl
 | _::_,_::_,⟨_,h2⟩=>by simp [bX.length h2]
 | [],_::_,hh=>hh.elim
 | _::_,[],hh=>hh.elim
theorem bX.append {α β:Type} {R:α→β→Prop} : ∀ {xs:List α} {ys:List β} {xs' : List α} {ys' : List β},bX R xs ys→bX R xs' ys' → bX R (xs++xs') (ys++ys')
 | [],[],_,_,_,h=>h
 | _::_,_::_,_,_,⟨h1,h2⟩,h=>⟨h1,bX.append h2 h⟩
 | [],_::_,_,_,hh,_=>hh.elim
 | _::_,[],_,_,hh,_=>hh.elim
theorem bX.get {α β:Type} {R:α→β→Prop} : ∀ {xs:List α} {ys:List β} {i:Nat} {x:α},bX R xs ys→xs[i]? = some x→∃ y,ys[i]? = some y∧R x y
 | x' :: _,y' :: _,0,x,⟨h1,_⟩,h=>⟨y',rfl,by simp at h; exact h ▸ h1⟩
 | _::_,_::_,i+1,x,⟨_,h2⟩,h=>by
  simp at h
  obtain ⟨y,hy,hr⟩:=bX.get h2 h
  exact ⟨y,by simpa using hy,hr⟩
 | [],[],_,_,_,h=>by simp at h
 | [],_::_,_,_,hh,_=>hh.elim
 | _::_,[],_,_,hh,_=>hh.elim
theorem bX.take {α β:Type} {R:α→β→Prop} : ∀ {xs:List α} {ys:List β} (k:Nat),bX R xs ys→bX R (xs.take k) (ys.take k)
 | [],[],_,_=>by simp [bX]
 | _::_,_::_,0,_=>by simp [bX]
 | _::_,_::_,k+1,⟨h1,h2⟩=>⟨h1,bX.take k h2⟩
 | [],_::_,_,hh=>hh.elim
 | _::_,[],_,hh=>hh.elim
theorem bX.drop {α β:Type} {R:α→β→Prop} : ∀ {xs:List α} {ys:List β} (k:Nat),bX R xs ys→bX R (xs.drop k) (ys.drop k)
 | [],[],_,_=>by simp [bX]
 | _::_,_::_,0,h=>h
 | _::_,_::_,k+1,⟨_,h2⟩=>bX.drop k h2
 | [],_::_,_,hh=>hh.elim
 | _::_,[],_,hh=>hh.elim
theorem bX.set {α β:Type} {R:α→β→Prop} : ∀ {xs:List α} {ys:List β} (k:Nat) {x:α} {y:β},bX R xs ys→R x y→bX R (xs.set k x) (ys.set k y)
 | [],[],_,_,_,_,_=>by simp [bX]
 | _::_,_::_,0,_,_,⟨_,h2⟩,h=>⟨h,h2⟩
 | _::_,_::_,k+1,_,_,⟨h1,h2⟩,h=>⟨h1,bX.set k h2 h⟩
 | [],_::_,_,_,_,hh,_=>hh.elim
 | _::_,[],_,_,_,hh,_=>hh.elim
theorem cx (t:Ty) : ∀ {xs:List t.den} {ys:List t.Refs},xs.length=ys.length→(cellsOf t xs ys).length=xs.length * t.sz
 | [],[],_=>by simp [cellsOf]
 | x::xs,y::ys,h=>by
  have:=cx t (xs:=xs) (ys:=ys) (by simpa using h)
  simp [cellsOf,t.fill_length,this,YN]; omega
 | [],_::_,h=>by simp at h
 | _::_,[],h=>by simp at h
theorem eJ (t:Ty) : ∀ {xs:List t.den} {ys:List t.Refs} {xs' : List t.den} {ys' : List t.Refs},xs.length=ys.length →
  cellsOf t (xs++xs') (ys++ys')=cellsOf t xs ys++cellsOf t xs' ys'
 | [],[],_,_,_=>by simp [cellsOf]
 | x::xs,y::ys,xs',ys',h=>by
  have:=eJ t (xs:=xs) (ys:=ys) (xs' := xs') (ys' := ys') (by simpa using h)
  simp [cellsOf,this]
 | [],_::_,_,_,h=>by simp at h
 | _::_,[],_,_,h=>by simp at h
theorem rF (t:Ty) : ∀ {xs:List t.den} {ys:List t.Refs} {i:Nat} {x:t.den} {y:t.Refs},xs[i]? = some x→ys[i]? = some y →
  ((cellsOf t xs ys).drop (i * t.sz)).take t.sz=t.fill x y
 | x' :: xs,y' :: ys,0,x,y,hx,hy=>by
  simp at hx hy; subst hx; subst hy
  simp [cellsOf,t.fill_length]
 | x' :: xs,y' :: ys,i+1,x,y,hx,hy=>by
  simp at hx hy
  have:=rF t hx hy
  simp only [cellsOf]
  rw [show (i+1) * t.sz=(t.fill x' y').length+i * t.sz by rw [t.fill_length,YN]; omega,W6,Wq (by omega)]
  simpa using this
 | [],_,_,_,_,hx,_=>by simp at hx
 | _::_,[],_,_,_,_,hy=>by simp at hy
theorem ja (t:Ty) : ∀ {xs:List t.den} {ys:List t.Refs} (k:Nat),xs.length=ys.length →
  cellsOf t (xs.take k) (ys.take k)=(cellsOf t xs ys).take (k * t.sz)
 | [],[],_,_=>by simp [cellsOf]
 | x::xs,y::ys,0,_=>by simp [cellsOf]
 | x::xs,y::ys,k+1,h=>by
  have:=ja t (xs:=xs) (ys:=ys) k (by simpa using h)
  simp only [aeo,cellsOf,this]
  rw [show (k+1) * t.sz=(t.fill x y).length+k * t.sz by rw [t.fill_length,YN]; omega,X9,WF (l:=t.fill x y) (by omega)]
  simp
 | [],_::_,_,h=>by simp at h
 | _::_,[],_,h=>by simp at h
theorem qp (t:Ty) : ∀ {xs:List t.den} {ys:List t.Refs} (k:Nat),xs.length=ys.length →
  cellsOf t (xs.drop k) (ys.drop k)=(cellsOf t xs ys).drop (k * t.sz)
 | [],[],_,_=>by simp [cellsOf]
 | x::xs,y::ys,0,_=>by simp
 | x::xs,y::ys,k+1,h=>by
  have:=qp t (xs:=xs) (ys:=ys) k (by simpa using h)
  simp only [adL,cellsOf,this]
  rw [show (k+1) * t.sz=(t.fill x y).length+k * t.sz by rw [t.fill_length,YN]; omega,W6,Wq (as:=t.fill x y) (by omega)]
  simp
 | [],_::_,_,h=>by simp at h
 | _::_,[],_,h=>by simp at h
def pD (l:List Value):Prop:=∀ v∈l,v.oneCell' = true
theorem uT:(t:Ty)→(x:t.den)→(y:t.Refs)→pD (t.fill x y)
 | .one _ _ h,x,_=>by simp [pD,Ty.fill,h]
 | .arr _ _ _ _ h,x,_=>by
  simp only [pD,Ty.fill,VO]
  rintro v ⟨i,_,rfl⟩
  exact h _
 | .unit,_,_=>by simp [pD,Ty.fill]
 | .pair a b,x,y=>by
  simp only [pD,Ty.fill,Wc]
  rintro v (hv | hv)
  ·exact uT a x.1 y.1 v hv
  ·exact uT b x.2 y.2 v hv
 | .slice t,xs,v=>by
  simp only [pD,Ty.fill,Vt]
  rintro u rfl
  rfl
 | .node,x,h=>by
  simp only [pD,Ty.fill,Nd.fill,Wd,aeh,ah9]
  rintro u (rfl | rfl | rfl | rfl) <;> rfl
 | .mp _ _,_,h=>by
  simp only [pD,Ty.fill,Vt]
  rintro u rfl
  rfl
theorem kM (t:Ty) : ∀ {xs:List t.den} {ys:List t.Refs},pD (cellsOf t xs ys)
 | [],[]=>by simp [pD,cellsOf]
 | x::xs,y::ys=>by
  simp only [pD,cellsOf,Wc]
  rintro v (hv | hv)
  ·exact uT t x y v hv
  ·exact kM t v hv
 | [],_::_=>by simp [pD,cellsOf]
 | _::_,[]=>by simp [pD,cellsOf]
def jj (w w' : World) (S S' : Nat→Prop):Prop:=∀ b,b<w.heap.size→S b→S' b∧w'.heap[b]? = w.heap[b]?
theorem Sl.keep (hk:jj w w' S S') {sz:Nat} {v:Hd}  {cells:List Value} (h:Sl w S sz v n cells):Sl w' S' sz v n cells:=by
 obtain ⟨hv,hn,hm,hc⟩:=h
 refine ⟨hv,hn,hm,?_⟩
 rcases hc with hc | ⟨b,off,arr,ty,fz,ha,hS,hb,hrest⟩
 ·exact .inl hc
 ·have hlt:b<w.heap.size:=(XD.1 hb).1
  obtain ⟨hS',hb'⟩:=hk b hlt hS
  exact .inr ⟨b,off,arr,ty,fz,ha,hS',hb'.trans hb,hrest⟩
theorem un : ∀ (xs:List Nd) (ys:List Hd),uS xs ys=cellsOf .node xs ys
 | [],[]=>rfl
 | x::xs,y::ys=>by simp only [uS,cellsOf,un xs ys]; rfl
 | [],_::_=>rfl
 | _::_,[]=>rfl
theorem vj {w:World} {S:Nat→Prop} : ∀ {xs:List Nd} {ys:List Hd},iS w S xs ys↔bX (qu w S) xs ys
 | [],[]=>by simp [iS,bX]
 | x::xs,y::ys=>by
  rw [iS,bX,vj]
 | [],_::_=>by simp [iS,bX]
 | _::_,[]=>by simp [iS,bX]
theorem oo {x:Nd} {h:Hd}:qu w S x h↔bM w S (.slice .node) x.tup.2.2.2 h:=by
 cases x with
 | mk k t n l=>
  rw [qu]
  constructor
  ·rintro ⟨ys,h1,h2⟩
   exact ⟨ys,vj.1 h1,by rw [← un]; exact h2⟩
  ·rintro ⟨ys,h1,h2⟩
   exact ⟨ys,vj.2 h1,by rw [un]; exact h2⟩
mutual
theorem qu.keep {w w' : World} {S S' : Nat→Prop} (hk:jj w w' S S'):(x:Nd)→(h:Hd)→qu w S x h→qu w' S' x h
 | .mk k t n l,h,hr=>by
  rw [qu] at hr ⊢
  obtain ⟨ys,h1,h2⟩:=hr
  exact ⟨ys,iS.keep hk l ys h1,h2.keep hk⟩
theorem iS.keep {w w' : World} {S S' : Nat→Prop} (hk:jj w w' S S'):(xs:List Nd)→(ys:List Hd)→iS w S xs ys→iS w' S' xs ys
 | [],[],h=>h
 | x::xs,y::ys,h=>by
  rw [iS] at h ⊢
  exact ⟨qu.keep hk x y h.1,iS.keep hk xs ys h.2⟩
 | [],_::_,h=>by rw [iS] at h; exact h.elim; all_goals simp
 | _::_,[],h=>by rw [iS] at h; exact h.elim; all_goals simp
end
theorem bM.keep {w w' : World} {S S' : Nat→Prop} (hk:jj w w' S S'):(t:Ty)→(x:t.den)→(y:t.Refs)→bM w S t x y→bM w' S' t x y
 | .one _ _ _,_,_,_=>trivial
 | .arr _ _ _ _ _,_,_,_=>trivial
 | .unit,_,_,_=>trivial
 | .pair a b,x,y,h=>⟨bM.keep hk a x.1 y.1 h.1,bM.keep hk b x.2 y.2 h.2⟩
 | .slice t,_,_,⟨ys,h1,h2⟩=>⟨ys,h1.mono (bM.keep hk t),h2.keep hk⟩
 | .node,x,h,hh=>qu.keep hk x h hh
 | .mp _ _,_,_,_=>trivial
abbrev db:=Nat→Value
abbrev bu:=Nat→Nat
def xj (ρ:db) (d:Nat) (v:Value):db:=fun t=>cond (Nat.beq t d) v (ρ t)
def aQ (ρ:db):Operand→Value
  | .tmp t=>ρ t
  | .const v=>v
  | .global g=>.pointer (some ⟨g,0,none⟩)
  | .func f=>.func (.func f) #[] #[]
structure Rel (n:Nat) (ρ:db) (a:Act):Prop where
  defers:a.defers=[]
  size:a.tmps.size=n
  val : ∀ t,a.tmps.getD t undef=ρ t
theorem Rel.eval {ρ:db} {a:Act} (h:Rel n ρ a):a.eval=aQ ρ:=by
  funext x; cases x <;> simp [Act.eval,aQ,h.val]
theorem Rel.put {ρ:db} {a:Act} (h:Rel n ρ a) {d:Nat} (hd:Nat.blt d n=true) (v:Value):Rel n (xj ρ d v) (a.put (some d) v):=by
  have hd' : d<n:=Vg hd
  refine ⟨h.defers,by simp [Act.put,h.size],fun t=>?_⟩
  have hv:=h.val t
  simp only [Act.put,xj,adc,aeL] at hv ⊢
  by_cases ht:t=d
  · subst ht; simp [h.size,hd']
  · have:Nat.beq t d=false:=by
      cases hb:Nat.beq t d
      · rfl
      · exact absurd (Vb hb) ht
    rw [if_neg (fun e=>ht e.symm),this]
    exact hv
noncomputable def pL (S:Nat→Prop):bu:=open Classical in fun b=>if S b then 1 else 0
theorem ae2 (S:Nat→Prop) (b:Nat):pL S b=0∨pL S b=1:=by
  unfold pL; split <;> simp
def mE (w w' : World):Prop:=w'.os=w.os∧w'.output=w.output
theorem mE.refl (w:World):mE w w:=⟨rfl,rfl⟩
theorem mE.trans {a b c:World} (h:mE a b) (k:mE b c):mE a c:=⟨k.1.trans h.1,k.2.trans h.2⟩
def uf (w:World) (e:TypeId) (sz:Nat) (v:Value) (n:Nat) (xs:List Value):Prop:=
  xs.length=n * sz∧((v = .slice none 0 0∧n=0) ∨
   ∃ (g cap:Nat) (cur:Array Value) (ty:TypeId) (fz:Nat×Nat),v = .slice (some ⟨g,0,none⟩) n cap∧w.heap[g]? = some (.cells cur ty fz)∧((ty=e∧fz=(0,0))∨(1048576≤e∧cur.size≤fz.1)) ∧
     n≤cap∧cap≤maxLen∧cur.size=cap * sz∧cur.toList.take (n * sz)=xs)
theorem y9 {base:Nat} {e:TypeId} {sz:Nat} {v:Value}   (h:w.ownsRow base e sz v n xs):uf w e sz v n xs:=
  ⟨h.1,h.2.imp id fun ⟨g,cap,cur,hv,_,hg,h1,h2,h3,h4⟩=>⟨g,cap,cur,e,(0,0),hv,hg, .inl ⟨rfl,rfl⟩,h1,h2,h3,h4⟩⟩
theorem uf.plain {e:TypeId} {sz:Nat} {v:Value}   (h:uf w e sz v n xs) (he:Nat.blt e 1048576=true):w.ownsRow 0 e sz v n xs:=
  ⟨h.1,h.2.imp id fun ⟨g,cap,cur,ty,fz,hv,hg,hm,h1,h2,h3,h4⟩=>by
    have he' : e+1≤1048576:=Vg he
    rcases hm with ⟨rfl,rfl⟩ | ⟨hge,_⟩
    · exact ⟨g,cap,cur,hv,adq _,hg,h1,h2,h3,h4⟩
    · exact absurd (aeM he' hge) (Nat.not_succ_le_self e)⟩
theorem uf.lt {e:TypeId} {sz:Nat} {v:Value}   (h:uf w e sz v n xs) : ∀ g,v.ownBlock=some g→g<w.heap.size:=by
  intro g hg
  rcases h.2 with ⟨rfl,_⟩ | ⟨g',cap,cur,ty,fz,rfl,hgg,_⟩
  · simp [Value.ownBlock] at hg
  · simp only [Value.ownBlock,Va] at hg
    subst hg
    exact (XD.1 hgg).1
theorem uf.same {e:TypeId} {sz:Nat} {v:Value}  {cells:List Value} (h:uf w e sz v n cells)
    (hb : ∀ g,v.ownBlock=some g→g<w.heap.size→w'.heap[g]? = w.heap[g]?):uf w' e sz v n cells:=by
  refine ⟨h.1,?_⟩
  rcases h.2 with h2 | ⟨g,cap,cur,ty,fz,rfl,hg,hrest⟩
  · exact .inl h2
  · exact .inr ⟨g,cap,cur,ty,fz,rfl,(hb g rfl (XD.1 hg).1).trans hg,hrest⟩
inductive EI
  | leaf
  | pair (a b:EI)
  | row (e:TypeId) (s:EI)
  deriving DecidableEq
def EI.fst:EI→EI
  | .pair a _=>a
  | _=>.leaf
def EI.snd:EI→EI
  | .pair _ b=>b
  | _=>.leaf
def EI.dec:Nat→Nat→EI×Nat
  | 0,n=>(.leaf,n)
  | f+1,n=>match n % 65536 with
    | 0=>(.leaf,n / 65536)
    | 1=>(.pair (EI.dec f (n / 65536)).1 (EI.dec f (EI.dec f (n / 65536)).2).1,(EI.dec f (EI.dec f (n / 65536)).2).2)
    | e+2=>(.row e (EI.dec f (n / 65536)).1,(EI.dec f (n / 65536)).2)
def eW (e:TypeId):Bool:=Nat.ble 1099511627776 e
def gd (e:TypeId):EI:=(EI.dec 16 (e / 1099511627776)).1
def Dw (w:World) (S:Nat→Prop) (d:Nat→List Nat) (π:List Nat) (e:TypeId) (sz:Nat) (h:Hd) (n:Nat) (cells:List Value):Prop:=
  ∃ (g cap:Nat) (cur:Array Value),h=⟨some ⟨g,0,none⟩,n,cap⟩∧w.heap[g]? = some (.cells cur e (0,0))∧n≤cap∧cap≤maxLen∧cur.size=cap * sz∧cur.toList.take (n * sz)=cells∧S g∧d g=π
def bF (w:World) (S:Nat→Prop) (d:Nat→List Nat):(t:Ty)→EI→List Nat→t.den→t.Refs→Prop
  | .one _ _ _,_,_,_,_=>True
  | .arr _ _ _ _ _,_,_,_,_=>True
  | .unit,_,_,_,_=>True
  | .pair a b,ε,π,x,y=>bF w S d a ε.fst (0::π) x.1 y.1∧bF w S d b ε.snd (1::π) x.2 y.2
  | .slice t,ε,π,xs,h=>(h=⟨none,0,0⟩∧xs=[])∨∃ e s,ε = .row e s∧∃ ys:List t.Refs,ys.length=xs.length∧Dw w S d π e t.sz h xs.length (cellsOf t xs ys) ∧
      ∀ (j:Nat) (x:t.den) (y:t.Refs),xs[j]? = some x→ys[j]? = some y→bF w S d t s (j::π) x y
  | .node,_,_,_,_=>False
  | .mp _ _,_,_,_,_=>False
theorem Dw.keep {d:Nat→List Nat} {π:List Nat} {e:TypeId} {sz:Nat} {h:Hd} {cells:List Value} (hk:jj w w' S S')
    (hr:Dw w S d π e sz h n cells):Dw w' S' d π e sz h n cells:=by
  obtain ⟨g,cap,cur,h1,h2,h3,h4,h5,h6,h7,h8⟩:=hr
  obtain ⟨k1,k2⟩:=hk g (XD.1 h2).1 h7
  exact ⟨g,cap,cur,h1,k2.trans h2,h3,h4,h5,h6,k1,h8⟩
theorem bF.keep {w w' : World} {S S' : Nat→Prop} {d:Nat→List Nat} (hk:jj w w' S S'):(t:Ty)→(ε:EI)→(π:List Nat)→(x:t.den)→(y:t.Refs) →
    bF w S d t ε π x y→bF w' S' d t ε π x y
  | .one _ _ _,_,_,_,_,_=>trivial
  | .arr _ _ _ _ _,_,_,_,_,_=>trivial
  | .unit,_,_,_,_,_=>trivial
  | .pair a b,ε,π,x,y,h=>⟨bF.keep hk a _ _ _ _ h.1,bF.keep hk b _ _ _ _ h.2⟩
  | .slice t,ε,π,xs,h,hh=>by
    rcases hh with hh | ⟨e,s,he,ys,h1,h2,h3⟩
    · exact .inl hh
    · exact .inr ⟨e,s,he,ys,h1,h2.keep hk,fun j x y hx hy=>bF.keep hk t s (j::π) x y (h3 j x y hx hy)⟩
theorem kh {α β:Type} {R:α→β→Prop} : ∀ {xs:List α} {ys:List β},ys.length=xs.length→(∀ (j:Nat) (x:α) (y:β),xs[j]? = some x→ys[j]? = some y→R x y)→bX R xs ys
  | [],[],_,_=>trivial
  | x::xs,y::ys,hl,h=>⟨h 0 x y rfl rfl,kh (by simpa using hl) fun j a b ha hb=>h (j+1) a b (by simpa using ha) (by simpa using hb)⟩
  | [],_::_,hl,_=>by simp at hl
  | _::_,[],hl,_=>by simp at hl
theorem bF.rep {w:World} {S S' : Nat→Prop} {d:Nat→List Nat} (hS : ∀ b,S b→S' b):(t:Ty)→(ε:EI)→(π:List Nat)→(x:t.den)→(y:t.Refs)→bF w S d t ε π x y→bM w S' t x y
  | .one _ _ _,_,_,_,_,_=>trivial
  | .arr _ _ _ _ _,_,_,_,_,_=>trivial
  | .unit,_,_,_,_,_=>trivial
  | .pair a b,ε,π,x,y,h=>⟨bF.rep hS a _ _ _ _ h.1,bF.rep hS b _ _ _ _ h.2⟩
  | .slice t,ε,π,xs,h,hh=>by
    rcases hh with ⟨rfl,rfl⟩ | ⟨e,s,he,ys,h1,h2,h3⟩
    · exact ⟨[],trivial,rfl,by simp,by simp [maxLen], .inl ⟨trivial,rfl⟩⟩
    · refine ⟨ys,kh h1 fun j x y hx hy=>bF.rep hS t s (j::π) x y (h3 j x y hx hy),?_⟩
      obtain ⟨g,cap,cur,rfl,g2,g3,g4,g5,g6,g7,g8⟩:=h2
      exact ⟨rfl,g3,g4, .inr ⟨g,0,cur,e,(0,0),rfl,hS g g7,g2,by show 0+cap * t.sz≤cur.size; omega,by simpa using g6⟩⟩
def dW (t:Ty) (xs:List t.den) (ys:List t.Refs) (k:Nat) (cs:List Value):List Value:=cellsOf t (xs.take k) (ys.take k)++cs++cellsOf t (xs.drop (k+1)) (ys.drop (k+1))
def ke (w:World) (S:Nat→Prop) (t:Ty) (e:TypeId) (xs:List t.den) (v:Hd) (k:Nat) (cs:List Value):Prop:=
  ∃ (d:Nat→List Nat) (e0:TypeId) (s:EI) (ys:List t.Refs),gd e = .row e0 s∧ys.length=xs.length∧k<xs.length∧cs.length=t.sz∧Dw w S d [] e0 t.sz v xs.length (dW t xs ys k cs) ∧
    ∀ (j:Nat) (x:t.den) (y:t.Refs),j≠k→xs[j]? = some x→ys[j]? = some y→bF w S d t s [j] x y
theorem ke.keep {t:Ty} {e:TypeId} {xs:List t.den} {v:Hd} {k:Nat}  (hk:jj w w' S S')
    (h:ke w S t e xs v k cs):ke w' S' t e xs v k cs:=by
  obtain ⟨d,e0,s,ys,h1,h2,h3,h4,h5,h6⟩:=h
  exact ⟨d,e0,s,ys,h1,h2,h3,h4,h5.keep hk,fun j x y hj hx hy=>bF.keep hk t s _ x y (h6 j x y hj hx hy)⟩
def cJ (w:World) (S:Nat→Prop) (t:Ty) (ε:EI) (x:t.den) (y:t.Refs):Prop:=∃ d:Nat→List Nat,bF w S d t ε [] x y
theorem cJ.keep {t:Ty} {ε:EI} {x:t.den} {y:t.Refs} (hk:jj w w' S S') (h:cJ w S t ε x y):cJ w' S' t ε x y:=h.imp fun _ h=>bF.keep hk t ε [] x y h
def sw (w:World) (S:Nat→Prop) (b:Nat) (es:List (Value×Value)):Prop:=
  ∃ (arr:Array MapEntry) (clock:Nat),w.heap[b]? = some (.map arr clock)∧arr.toList.map (fun e=>(e.key,e.val))=es∧(∀ e∈arr.toList,e.born<clock)∧(arr.toList.map (·.born)).Nodup∧S b
theorem sw.keep {b:Nat} {es:List (Value×Value)} (hk:jj w w' S S') (h:sw w S b es):sw w' S' b es:=by
  obtain ⟨arr,clock,h1,h2,h3,h4,h5⟩:=h
  obtain ⟨k1,k2⟩:=hk b (XD.1 h1).1 h5
  exact ⟨arr,clock,k2.trans h1,h2,h3,h4,k1⟩
def vJ (w:World) (S SK:Nat→Prop) (t:Ty) (e:TypeId) (xs:List t.den) (v:Hd) (m:Int):Prop:=
  (v=⟨none,0,0⟩∧xs=[])∨∃ (d:Nat→List Nat) (e0:TypeId) (s:EI) (ys:List t.Refs),gd e = .row e0 s∧ys.length=xs.length∧Dw w S d [] e0 t.sz v xs.length (cellsOf t xs ys) ∧
    (∀ (j:Nat) (x:t.den) (y:t.Refs),(j:Int)<m→xs[j]? = some x→ys[j]? = some y→bF w S d t s [j] x y)∧(∀ (j:Nat) (x:t.den) (y:t.Refs),m≤(j:Int)→xs[j]? = some x→ys[j]? = some y→bM w SK t x y)
theorem vJ.keep {SK SK':Nat→Prop} {t:Ty} {e:TypeId} {xs:List t.den} {v:Hd} {m:Int} (hk:jj w w' S S') (hk2:jj w w' SK SK') (h:vJ w S SK t e xs v m):vJ w' S' SK' t e xs v m:=by
  rcases h with h | ⟨d,e0,s,ys,h1,h2,h3,h4,h5⟩
  · exact .inl h
  · refine .inr ⟨d,e0,s,ys,h1,h2,h3.keep hk,fun j x y hj hx hy=>bF.keep hk t s _ x y (h4 j x y hj hx hy),fun j x y hj hx hy=>bM.keep hk2 t x y (h5 j x y hj hx hy)⟩
inductive HA:Type 1
  | pt (t:Ty) (e:TypeId) (i:Nat) (K:List Nat) (xs:List t.den) (v:Hd) (m:Int)
  | mp (i b:Nat) (es:List (Value×Value))
  | tr (t:Ty) (e:TypeId) (i:Nat) (K:List Nat) (xs:List t.den) (v:Hd)
  | hol (t:Ty) (e:TypeId) (i:Nat) (xs:List t.den) (v:Hd) (k:Nat) (cs:List Value)
  | rep (t:Ty) (K:List Nat) (xs:List t.den) (v:Hd)
  | own (t:Ty) (e:TypeId) (i:Nat) (K:List Nat) (xs:List t.den) (v:Hd)
  | box (i b:Nat) (cs:List Value)
  | elem (t:Ty) (K:List Nat) (x:t.den) (p:Addr)
  | old (w0:World) (c0:bu)
  | pure (p:Prop)
  | gl (g n:Nat) (cs:List Value)
def HA.holds (w:World) (c:bu):HA→Prop
  | .pt t e i K xs v m=>vJ w (fun b=>c b=i) (fun b=>c b∈K) t e xs v m
  | .tr t e i _ xs v=>cJ w (fun b=>c b=i) (.slice t) (gd e) xs v
  | .hol t e i xs v k cs=>ke w (fun b=>c b=i) t e xs v k cs
  | .mp i b es=>sw w (fun b=>c b=i) b es
  | .rep t K xs v=>bM w (fun b=>c b∈K) (.slice t) xs v
  | .own t e i K xs v=>∃ ys,bX (bM w (fun b=>c b∈K) t) xs ys∧uf w e t.sz v.val xs.length (cellsOf t xs ys)∧∀ g,v.val.ownBlock=some g→c g=i
  | .box i b cs=>(∃ ty,w.heap[b]? = some (.cells cs.toArray ty (0,0)))∧c b=i
  | .elem t K x p=>∃ y b off arr ty fz,p=⟨b,off,none⟩∧c b∈K∧w.heap[b]? = some (.cells arr ty fz)∧off+t.sz≤arr.size ∧
      (arr.toList.drop off).take t.sz=t.fill x y∧bM w (fun b=>c b∈K) t x y
  | .old w0 c0=>w0.heap.size≤w.heap.size∧(∀ b,b<w0.heap.size→c0 b≤1→w.heap[b]? = w0.heap[b]? ∧ c b=c0 b)∧(∀ b,b<w.heap.size→(b<w0.heap.size→2≤c0 b)→2≤c b)∧mE w0 w
  | .pure p=>p
  | .gl g n cs=>(∃ ty fz,w.heap[g]? = some (.cells cs.toArray ty fz))∧c g≤1∧n≤maxLen
def HA.uses:HA→List Nat
  | .pt _ _ i K _ _ _=>i::K
  | .tr _ _ i K _ _=>i::K
  | .hol _ _ i _ _ _ _=>[i]
  | .mp i _ _=>[i]
  | .rep _ K _ _=>K
  | .own _ _ i K _ _=>i::K
  | .box i _ _=>[i]
  | .elem _ K _ _=>K
  | .old _ _=>[0,1]
  | .pure _=>[]
  | .gl _ _ _=>[0,1]
structure Stp (κ:List Nat) (w:World) (c:bu) (w' : World) (c' : bu):Prop where
  size:w.heap.size≤w'.heap.size
  col : ∀ b,b<w.heap.size→c b∉κ→c' b=c b
  same : ∀ b,b<w.heap.size→c b∉κ→w'.heap[b]? = w.heap[b]?
  two : ∀ b,b<w'.heap.size→(b<w.heap.size→c b∈κ∧2≤c b)→2≤c' b
  env:mE w w'
theorem Stp.mk0 {c:bu}  {c' : bu} (size:w.heap.size≤w'.heap.size) (col : ∀ b,b<w.heap.size→c' b=c b) (same : ∀ b,b<w.heap.size→c b∉κ→w'.heap[b]? = w.heap[b]?)
    (two : ∀ b,w.heap.size≤b→b<w'.heap.size→2≤c' b) (env:mE w w'):Stp κ w c w' c' :=
  ⟨size,fun b hb _=>col b hb,same,fun b hb h=>if hlt:b<w.heap.size then (col b hlt).symm ▸ (h hlt).2 else two b (by omega) hb,env⟩
theorem Stp.refl (w:World) (c:bu):Stp [] w c w c:=.mk0 (Wb _) (fun _ _=>rfl) (fun _ _ _=>rfl) (fun b h1 h2=>by omega) (mE.refl w)
theorem Stp.keeps {c:bu}  {c' : bu} (h:Stp κ w c w' c')  (hK : ∀ k∈K,k∉κ) :
    jj w w' (fun b=>c b∈K) (fun b=>c' b∈K):=fun b hb hc=>⟨by show c' b∈K; rw [h.col b hb (hK _ hc)]; exact hc,h.same b hb (hK _ hc)⟩
theorem HA.stp {c:bu}  {c' : bu} (hs:Stp κ w c w' c'):(A:HA)→(∀ k∈A.uses,k∉κ)→A.holds w c→A.holds w' c'
  | .tr t e i K xs v,hK,h=>by
    have hi:i∉κ:=hK i (by simp [HA.uses])
    exact cJ.keep (fun b hb (hc:c b=i)=>⟨by show c' b=i; rw [hs.col b hb (by rw [hc]; exact hi)]; exact hc,hs.same b hb (by rw [hc]; exact hi)⟩) h
  | .pt t e i K xs v m,hK,h=>by
    have hi:i∉κ:=hK i (by simp [HA.uses])
    exact vJ.keep (fun b hb (hc:c b=i)=>⟨by show c' b=i; rw [hs.col b hb (by rw [hc]; exact hi)]; exact hc,hs.same b hb (by rw [hc]; exact hi)⟩) (hs.keeps (fun k hk=>hK k (by simp [HA.uses,hk]))) h
  | .hol t e i xs v k cs,hK,h=>by
    have hi:i∉κ:=hK i (by simp [HA.uses])
    exact ke.keep (fun b hb (hc:c b=i)=>⟨by show c' b=i; rw [hs.col b hb (by rw [hc]; exact hi)]; exact hc,hs.same b hb (by rw [hc]; exact hi)⟩) h
  | .mp i b es,hK,h=>by
    have hi:i∉κ:=hK i (by simp [HA.uses])
    exact sw.keep (fun b hb (hc:c b=i)=>⟨by show c' b=i; rw [hs.col b hb (by rw [hc]; exact hi)]; exact hc,hs.same b hb (by rw [hc]; exact hi)⟩) h
  | .rep t K xs v,hK,h=>bM.keep (hs.keeps hK) (.slice t) xs v h
  | .own t e i K xs v,hK,⟨ys,h1,h2,h3⟩=>by
    have hi:i∉κ:=hK i (by simp [HA.uses])
    have hlt : ∀ g,v.val.ownBlock=some g→g<w.heap.size:=fun g hg=>h2.lt g hg
    exact ⟨ys,h1.mono (bM.keep (hs.keeps (fun k hk=>hK k (by simp [HA.uses,hk]))) t),h2.same (fun g hg hl=>hs.same g hl (by rw [h3 g hg]; exact hi)),
      fun g hg=>by rw [hs.col g (hlt g hg) (by rw [h3 g hg]; exact hi)]; exact h3 g hg⟩
  | .box i b cs,hK,⟨⟨ty,hb⟩,hc⟩=>by
    have hlt:b<w.heap.size:=(XD.1 hb).1
    exact ⟨⟨ty,(hs.same b hlt (by rw [hc]; exact hK i (by simp [HA.uses]))).trans hb⟩,by rw [hs.col b hlt (by rw [hc]; exact hK i (by simp [HA.uses]))]; exact hc⟩
  | .elem t K x p,hK,⟨y,b,off,arr,ty,fz,hp,hc,hb,h1,h2,h3⟩=>by
    have hlt:b<w.heap.size:=(XD.1 hb).1
    exact ⟨y,b,off,arr,ty,fz,hp,by rw [hs.col b hlt (hK _ hc)]; exact hc,(hs.same b hlt (hK _ hc)).trans hb,h1,h2,bM.keep (hs.keeps hK) t x y h3⟩
  | .old w0 c0,hK,⟨h1,h2,h5,h6⟩=>by
    refine ⟨aeM h1 hs.size,fun b hb h01=>?_,fun b hb hb' => ?_,h6.trans hs.env⟩
    · obtain ⟨h3,h4⟩:=h2 b hb h01
      have hlt:b<w.heap.size:=Nat.lt_of_lt_of_le hb h1
      have hn:c b∉κ:=by
        rw [h4]
        rcases (show c0 b=0∨c0 b=1 by omega) with e | e <;> rw [e] <;> exact hK _ (by simp [HA.uses])
      exact ⟨(hs.same b hlt hn).trans h3,by rw [hs.col b hlt hn]; exact h4⟩
    · by_cases hlt:b<w.heap.size
      · have h2' := h5 b hlt hb'
        by_cases hk:c b∈κ
        · exact hs.two b hb fun _=>⟨hk,h2'⟩
        · rw [hs.col b hlt hk]; exact h2'
      · exact hs.two b hb fun h=>absurd h hlt
  | .pure _,_,h=>h
  | .gl g n cs,hK,⟨⟨ty,fz,hb⟩,hc,hn⟩=>by
    have hlt:g<w.heap.size:=(XD.1 hb).1
    have hk:c g∉κ:=by
      rcases (show c g=0∨c g=1 by omega) with e | e <;> rw [e] <;> exact hK _ (by simp [HA.uses])
    exact ⟨⟨ty,fz,(hs.same g hlt hk).trans hb⟩,by rw [hs.col g hlt hk]; exact hc,hn⟩
def am (w:World) (c:bu) (L:List HA):Prop:=∀ A∈L,A.holds w c
theorem am.nil (w:World) (c:bu):am w c []:=fun _ h=>by simp at h
theorem am.cons {c:bu} {A:HA} {L:List HA} (h:A.holds w c) (hL:am w c L):am w c (A::L):=fun B hB=>by
  rcases Wd.1 hB with rfl | hB
  · exact h
  · exact hL B hB
theorem am.append {c:bu} {L L' : List HA} (h:am w c L) (h' : am w c L'):am w c (L++L'):=fun A hA=>by
  rcases Wc.1 hA with hA | hA
  · exact h A hA
  · exact h' A hA
theorem am.at {c:bu} {L:List HA} (h:am w c L) {k:Nat} {A:HA} (hk:L[k]? = some A):A.holds w c:=h A (aeT hk)
theorem am.sub {c:bu} {L:List HA} (h:am w c L) (is:List Nat) {L' : List HA} (he:is.filterMap (L[·]?)=L'):am w c L' := by
  subst he
  intro A hA
  obtain ⟨i,_,hi⟩:=List.mem_filterMap.1 hA
  exact h.at hi
def qM (κ:List Nat) (A:HA):Bool:=A.uses.all fun k=>κ.all fun j=>!(Nat.beq k j)
def keep (κ:List Nat) (L:List HA):List HA:=L.filter (qM κ)
theorem am.stp {c:bu}  {c' : bu} (hs:Stp κ w c w' c') {L:List HA} (h:am w c L):am w' c' (keep κ L):=by
  intro A hA
  simp only [keep,Yc] at hA
  refine HA.stp hs A (fun k hk hκ=>?_) (h A hA.1)
  have:=Vx.1 (Vx.1 hA.2 k hk) k hκ
  simp at this
theorem am.stp0 {c:bu}  {c' : bu} (hs:Stp [] w c w' c') {L:List HA} (h:am w c L):am w' c' L:=
  fun A hA=>HA.stp hs A (by simp) (h A hA)
def cU (P:Program) (ρ:db) (o:Oper) (L:List HA) (κ:List Nat) {Y:Type} (val:Y→Value) (Φ:Y→List HA):Prop:=
  ∀ (a:Act) (ev:Operand→Value) (w:World) (c:bu) (next:Act→World→Prop) (Q:Exit→Act→World→Prop),ev=aQ ρ→am w c L →
    (∀ y w' c',Stp κ w c w' c' → am w' c' (Φ y)→next (a.put o.dst (val y)) w') →
    o.upon P a next Q ((execOp ev o).run P w)
def bi (P:Program) (ρ:db) (o:Oper) (L:List HA) (v:Value):Prop:=
  ∀ (ev:Operand→Value) (w:World) (c:bu),ev=aQ ρ→am w c L→(execOp ev o).run P w = .ok (.value v) w
theorem bi.op {P:Program} {ρ:db} {o:Oper} {L:List HA} {v:Value} (h:bi P ρ o L v):cU P ρ o L [] (fun _:Unit=>v) (fun _=>[]):=by
  intro a ev w c next Q ha hL hk
  rw [h ev w c ha hL]
  exact hk () w c (Stp.refl w c) (am.nil _ _)
def Sim (P:Program) (n:Nat) (cd:Code) (Q:Exit→Act→World→Prop) (ρ:db) (L:List HA):Prop:=
  ∀ a w c,Rel n ρ a→am w c L→cd.wp P Q a w
section
variable {P:Program} {n:Nat} {Q:Exit→Act→World→Prop} {ρ:db} {L:List HA} {ops:Array Oper} {rest:List Oper} {o:Oper}
end
def HA.ren (g:Nat→Nat):HA→HA
 | .tr t e i K xs v=>.tr t e (g i) (K.map g) xs v
 | .pt t e i K xs v m=>.pt t e (g i) (K.map g) xs v m
 | .hol t e i xs v k cs=>.hol t e (g i) xs v k cs
 | .mp i b es=>.mp (g i) b es
 | .rep t K xs v=>.rep t (K.map g) xs v
 | .own t e i K xs v=>.own t e (g i) (K.map g) xs v
 | .box i b cs=>.box (g i) b cs
 | .elem t K x p=>.elem t (K.map g) x p
 | .old w0 S=>.old w0 S
 | .pure p=>.pure p
 | .gl g n cs=>.gl g n cs
structure Gd (g:Nat→Nat):Prop where
 z:g 0=0
 o:g 1=1
 two : ∀ k,2≤k→2≤g k
theorem HA.ren_holds (hg:Gd g)  {c:bu}:(A:HA)→A.holds w c→(A.ren g).holds w (fun b=>g (c b))
 | .tr t e i K xs v,h=>cJ.keep (fun b _ (hc:c b=i)=>⟨by show g (c b)=g i; rw [hc],rfl⟩) h
 | .hol t e i xs v k cs,h=>ke.keep (fun b _ (hc:c b=i)=>⟨by show g (c b)=g i; rw [hc],rfl⟩) h
 | .pt t e i K xs v m,h=>vJ.keep (S:=fun b=>c b=i) (SK:=fun b=>c b∈K) (fun b _ (hc:c b=i)=>⟨by show g (c b)=g i; rw [hc],rfl⟩) (fun b _ hb=>⟨VO.2 ⟨_,hb,rfl⟩,rfl⟩) h
 | .mp i b es,h=>sw.keep (S' := fun b=>g (c b)=g i) (fun b _ (hc:c b=i)=>⟨by show g (c b)=g i; rw [hc],rfl⟩) h
 | .rep t K xs v,h=>bM.keep (S:=fun b=>c b∈K) (fun b _ hb=>⟨VO.2 ⟨_,hb,rfl⟩,rfl⟩) (.slice t) xs v h
 | .own t e i K xs v,⟨ys,h1,h2,h3⟩=>⟨ys,h1.mono (bM.keep (S:=fun b=>c b∈K) (fun b _ hb=>⟨VO.2 ⟨_,hb,rfl⟩,rfl⟩) t),h2,fun b hb=>by show g (c b)=g i; rw [h3 b hb]⟩
 | .box i b cs,⟨h1,h2⟩=>⟨h1,by show g (c b)=g i; rw [h2]⟩
 | .elem t K x p,⟨y,b,off,arr,ty,fz,hp,hc,h1,h2,h3,h4⟩=>
  ⟨y,b,off,arr,ty,fz,hp,VO.2 ⟨_,hc,rfl⟩,h1,h2,h3,bM.keep (S:=fun b=>c b∈K) (fun b _ hb=>⟨VO.2 ⟨_,hb,rfl⟩,rfl⟩) t x y h4⟩
 | .old w0 c0,⟨h1,h2,h3,h4⟩=>⟨h1,fun b hb h01=>⟨(h2 b hb h01).1,by
   show g (c b)=_
   rw [(h2 b hb h01).2]
   rcases (show c0 b=0∨c0 b=1 by omega) with e | e <;> rw [e]
   ·exact hg.z
   ·exact hg.o⟩,fun b hb hb' => hg.two _ (h3 b hb hb'),h4⟩
 | .pure _,h=>h
 | .gl b n cs,⟨h1,h2,h3⟩=>⟨h1,by
   show g (c b)≤1
   rcases (show c b=0∨c b=1 by omega) with e | e <;> rw [e]
   ·rw [hg.z]; omega
   ·rw [hg.o]; omega,h3⟩
theorem am.ren (hg:Gd g)  {c:bu} {L:List HA} (h:am w c L):am w (fun b=>g (c b)) (L.map (HA.ren g)):=by
 intro A hA
 obtain ⟨B,hB,rfl⟩:=VO.1 hA
 exact B.ren_holds hg (h B hB)
def pX (l:List (Nat×Nat)) (d:Nat) (k:Nat):Nat:=
 match k with
 | 0=>0
 | 1=>1
 | _=>match l with
  | []=>d
  | (a,b)::r=>cond (Nat.beq k a) b (pX r d k)
theorem HN {l:List (Nat×Nat)} {d:Nat} (h:(d::l.map (·.2)).all (fun x=>Nat.ble 2 x)=true):Gd (pX l d):=by
 have hd:2≤d:=Vg (Vx.1 h d (by simp))
 have hl : ∀ p∈l,2≤p.2:=fun p hp=>Vg (Vx.1 h p.2 (by simp only [Wd,VO]; exact .inr ⟨p,hp,rfl⟩))
 refine ⟨by simp [pX],by simp [pX],?_⟩
 intro k hk
 clear h
 induction l with
 | nil=>
  match k,hk with
  | k+2,_=>exact hd
 | cons p r ih=>
  obtain ⟨a,b⟩:=p
  match k,hk with
  | k+2,hk=>
   simp only [pX]
   cases hb:Nat.beq (k+2) a
   ·exact ih fun q hq=>hl q (Vi _ hq)
   ·exact hl (a,b) (by simp)
theorem agN (h:K.all (fun k=>Ka.any fun j=>Nat.beq k j)=true) {k:Nat} (hk:k∈K):k∈Ka:=by
 obtain ⟨j,hj,he⟩:=ac6.1 (Vx.1 h k hk)
 exact (Vb he) ▸ hj
theorem zw {c:bu} {t:Ty} {e:TypeId}   {xs:List t.den} {v:Hd} (h:HA.holds w c (.own t e i K xs v)):HA.holds w c (.rep t (i::K) xs v):=by
 obtain ⟨ys,h1,h2,h3⟩:=h
 obtain ⟨a,n,cap⟩:=v
 refine ⟨ys,h1.mono (bM.keep (fun b _ hb=>⟨Vi _ hb,rfl⟩) t),?_⟩
 rcases h2.2 with ⟨hv,hn⟩ | ⟨g,cap',cur,ty,fz,hv,hg,_,hle,hm,hsz,hcells⟩
 ·simp only [Hd.val,Value.slice.injEq] at hv
  obtain ⟨rfl,rfl,rfl⟩:=hv
  exact ⟨by simp [hn],by simp [hn],by simp [maxLen], .inl ⟨trivial,rfl⟩⟩
 ·simp only [Hd.val,Value.slice.injEq] at hv
  obtain ⟨rfl,rfl,rfl⟩:=hv
  exact ⟨rfl,hle,hm, .inr ⟨g,0,cur,ty,fz,rfl,by show c g∈i::K; rw [h3 g rfl]; simp,hg,by simp [hsz],by simpa using hcells⟩⟩
def Di (A A' : HA):Prop:=∀ w c,A.holds w c→A'.holds w c
theorem yQ {t:Ty} {e:TypeId} {xs:List t.den} {v:Hd} (h:t.pureB=true):Di (.own t e i K xs v) (.own t e i K' xs v):=
 fun _ _ ⟨ys,h1,h2,h3⟩=>⟨ys,h1.mono (fun x y _=>bM.pure t x y h),h2,h3⟩
theorem uN {A:HA}:Di A A:=fun _ _ h=>h
def CL (A:HA):Prop:=∀ w c,A.holds w c
theorem ry {t:Ty} :CL (.rep t K [] ⟨none,0,0⟩):=fun _ _=>⟨[],trivial,rfl,by simp,by simp [maxLen], .inl ⟨trivial,rfl⟩⟩
theorem Bg {t:Ty} {e:TypeId} :CL (.own t e i K [] ⟨none,0,0⟩):=fun _ _=>⟨[],trivial,⟨by simp [cellsOf], .inl ⟨rfl,rfl⟩⟩,fun g hg=>by simp [Value.ownBlock] at hg⟩
def oG (L:List HA):List HA→Prop
 | []=>True
 | A' :: r=>((∃ (k:Nat) (A:HA),L[k]? = some A∧Di A A')∨CL A')∧oG L r
theorem oG.heap {c:bu} {L:List HA} (hL:am w c L) : ∀ {l:List HA},oG L l→am w c l
 | [],_=>am.nil _ _
 | _::_,⟨.inl ⟨_,_,hk,hc⟩,hr⟩=>am.cons (hc w c (hL.at hk)) (hr.heap hL)
 | _::_,⟨.inr hf,hr⟩=>am.cons (hf w c) (hr.heap hL)
def tD {S R:Type} (f:S→Option (S⊕R)):Nat→S→Option R
 | 0,_=>none
 | k+1,s=>(f s).bind fun | .inl s' => tD f k s' | .inr r=>some r
section
variable {P:Program} {n:Nat} {Q:Exit→Act→World→Prop} {ρ:db} {L:List HA}
theorem bind_some {β:Type} {m:Option α} {k:α→Option β} {r:β} (h:m.bind k=some r) : ∃ s,m=some s∧k s=some r:=Yg.1 h
theorem Nr {f:FuncId} {fn:Func} {cd:Code} {R:Ending→World→Prop} (hf:P.funcs[f]? = some fn) (hb:fn.body=some cd) (hn:fn.ntmps=n) (args:List Value) {w0:World} {c0:bu}
  (hargs:Nat.ble args.length n=true) (hL:am w0 c0 L) (h:Sim P n cd (bodyPost P fn R) (fun t=>args.getD t undef) (.old w0 c0::L)):Calls P f args.toArray w0 R:=by
 refine calls_of_wp hf hb (h _ w0 c0 ⟨rfl,?_,fun t=>?_⟩ (am.cons ⟨Wb _,fun b _ _=>⟨rfl,rfl⟩,fun b h1 h2=>h2 h1,mE.refl _⟩ hL))
 ·have:=Vg hargs
  simp [hn]; omega
 ·simp only [adc,WT,Array.getElem?_append,ais,adb,List.getElem?_toArray]
  split
  ·rfl
  ·rename_i hge
   rw [adx (by omega)]
   split <;> rfl
def af1 (K:List Nat) (A A' : HA):Prop:=∀ w c,A.holds w c→A'.holds w (pL fun b=>c b∈K)
def Rp (L:List HA) (Ka:List Nat):List HA→Prop
 | []=>True
 | A' :: r=>((∃ (k:Nat) (A:HA),L[k]? = some A∧af1 Ka A A')∨CL A')∧Rp L Ka r
theorem Rp.heap {c:bu} (hL:am w c L) : ∀ {l:List HA},Rp L Ka l→am w (pL fun b=>c b∈Ka) l
 | [],_=>am.nil _ _
 | _::_,⟨.inl ⟨_,_,hk,hc⟩,hr⟩=>am.cons (hc w c (hL.at hk)) (hr.heap hL)
 | _::_,⟨.inr hf,hr⟩=>am.cons (hf w _) (hr.heap hL)
def instK (N:Nat) (Ka:List Nat):List Nat→List Nat
 | []=>[]
 | 0::r=>instK N Ka r
 | 1::r=>Ka++instK N Ka r
 | (k+2)::r=>(N+k)::instK N Ka r
def HA.inst (N:Nat) (Ka:List Nat):HA→HA
 | .tr t e i K xs v=>.tr t e (N+(i - 2)) (instK N Ka K) xs v
 | .pt t e i K xs v m=>.pt t e (N+(i - 2)) (instK N Ka K) xs v m
 | .hol t e i xs v k cs=>.hol t e (N+(i - 2)) xs v k cs
 | .mp i b es=>.mp (N+(i - 2)) b es
 | .rep t K xs v=>.rep t (instK N Ka K) xs v
 | .own t e i K xs v=>.own t e (N+(i - 2)) (instK N Ka K) xs v
 | .box i b cs=>.box (N+(i - 2)) b cs
 | .elem t K x p=>.elem t (instK N Ka K) x p
 | .old w0 S=>.old w0 S
 | .pure p=>.pure p
 | .gl g n cs=>.gl g n cs
def HA.leaves:HA→Bool
 | .tr _ _ i K _ _=>Nat.ble 2 i&&K.all fun k=>Nat.ble 1 k
 | .pt _ _ i K _ _ _=>Nat.ble 2 i&&K.all fun k=>Nat.ble 1 k
 | .hol _ _ i _ _ _ _=>Nat.ble 2 i
 | .mp i _ _=>Nat.ble 2 i
 | .rep _ K _ _=>K.all fun k=>Nat.ble 1 k
 | .own _ _ i K _ _=>Nat.ble 2 i&&K.all fun k=>Nat.ble 1 k
 | .box i _ _=>Nat.ble 2 i
 | .elem _ K _ _=>K.all fun k=>Nat.ble 1 k
 | .old _ _=>false
 | .pure _=>true
 | .gl _ _ _=>false
theorem instK_mem {N:Nat} {Ka:List Nat} : ∀ {K:List Nat} {k:Nat},k+2∈K→N+k∈instK N Ka K
 | 0::r,k,h=>by
  rcases Wd.1 h with h | h
  ·omega
  ·exact instK_mem (K:=r) h
 | 1::r,k,h=>by
  rcases Wd.1 h with h | h
  ·omega
  ·exact WQ _ (instK_mem (K:=r) h)
 | (j+2)::r,k,h=>by
  rcases Wd.1 h with h | h
  ·simp only [instK]; rw [show k=j by omega]; exact VU
  ·exact Vi _ (instK_mem (K:=r) h)
theorem instK_one {N:Nat} {Ka:List Nat} : ∀ {K:List Nat} {k:Nat},1∈K→k∈Ka→k∈instK N Ka K
 | 0::r,k,h,hk=>by
  rcases Wd.1 h with h | h
  ·omega
  ·exact instK_one (K:=r) h hk
 | 1::r,k,_,hk=>Ww _ hk
 | (j+2)::r,k,h,hk=>by
  rcases Wd.1 h with h | h
  ·omega
  ·exact Vi _ (instK_one (K:=r) h hk)
def dR (t:Ty) (e:TypeId) (i:Nat) (K:List Nat) (xs:List t.den) (v:Hd):HA:=match eW e with
 | true=>.tr t e i K xs v
 | false=>.own t e i K xs v
section
variable {t:Ty} {e:TypeId} {i:Nat} {K:List Nat} {xs:List t.den} {v:Hd}
theorem jb (h:eW e=true):dR t e i K xs v = .tr t e i K xs v:=by unfold dR; rw [h]
theorem d7 (h:eW e=false):dR t e i K xs v = .own t e i K xs v:=by unfold dR; rw [h]
theorem UH:(dR t e i K xs v).uses=i::K:=by unfold dR; cases eW e <;> rfl
theorem WH :(dR t e i K xs v).ren g=dR t e (g i) (K.map g) xs v:=by unfold dR; cases eW e <;> rfl
theorem yC {N:Nat} :(dR t e i K xs v).inst N Ka=dR t e (N+(i - 2)) (instK N Ka K) xs v:=by unfold dR; cases eW e <;> rfl
theorem vq:(dR t e i K xs v).leaves=(Nat.ble 2 i&&K.all fun k=>Nat.ble 1 k):=by unfold dR; cases eW e <;> rfl
theorem f8 {e:Nat} (h:Nat.blt e 1048576=true):eW e=false:=by
 have h1:e+1≤1048576:=Vg h
 cases hb:eW e
 ·rfl
 ·have:1099511627776≤e:=Vg hb
  omega
theorem Jc {c:bu} (h:HA.holds w c (.tr t e i K xs v)):HA.holds w c (.rep t (i::K) xs v):=by
 obtain ⟨d,h⟩:=h
 exact bF.rep (S' := fun b=>c b∈i::K) (fun b (hb:c b=i)=>by rw [hb]; exact VU) (.slice t) _ _ _ _ h
theorem H2 {c:bu} (h:HA.holds w c (dR t e i K xs v)):HA.holds w c (.rep t (i::K) xs v):=by
 unfold dR at h
 split at h
 ·exact Jc h
 ·exact zw h
theorem rZ:CL (dR t e i K [] ⟨none,0,0⟩):=by
 intro w c
 unfold dR
 split
 ·exact ⟨fun _=>[], .inl ⟨rfl,rfl⟩⟩
 ·exact Bg w c
theorem KC {c c' : bu} {i' : Nat}  (hi : ∀ b,b<w.heap.size→c b=i→c' b=i') (hK : ∀ b,b<w.heap.size→c b∈K→c' b∈K') (h:HA.holds w c (dR t e i K xs v)):HA.holds w c' (dR t e i' K' xs v):=by
 unfold dR at h ⊢
 split at h
 ·exact cJ.keep (fun b hb hc=>⟨hi b hb hc,rfl⟩) h
 ·obtain ⟨ys,h1,h2,h3⟩:=h
  exact ⟨ys,h1.mono (bM.keep (fun b hb hc=>⟨hK b hb hc,rfl⟩) t),h2,fun g hg=>hi g (h2.lt g hg) (h3 g hg)⟩
end
end
def TI (P:Program) (t:TypeId) (sz by_:Nat) (z:Value):Prop:=(P.info? t).map (fun i=>(i.zero,i.size,i.bytes))=some (some z,sz,by_)
theorem TI.get {P:Program} {sz:Nat}  (h:TI P t sz by_ z) : ∃ i,P.info? t=some i∧i.zero=some z∧i.size=sz∧i.bytes=by_:=by
 unfold TI at h
 cases hi:P.info? t with
 | none=>rw [hi] at h; cases h
 | some i=>
  rw [hi] at h
  simp only [ad4,Va,VI] at h
  exact ⟨i,rfl,h.1,h.2.1,h.2.2⟩
def lk:TypeDesc→Bool
 | .struct _=>true
 | .array _ _=>true
 | _=>false
def SO:TypeDesc→Bool
 | .interface _=>true
 | _=>false
section
variable {P:Program} {ρ:db} {L:List HA} {o:Oper} {N:Nat}
theorem ahA {x:Operand} {v:Value} (ho:o.op = .move x) (hx:aQ ρ x=v):bi P ρ o L v:=fun ev w c he _=>by
 subst he; simp [execOp,ho,hx]
theorem V2 {x:Operand} {v:Value} (ho:o.op = .assign x) (hx:aQ ρ x=v):bi P ρ o L v:=fun ev w c he _=>by
 subst he; simp [execOp,ho,hx]
theorem ahi {c x:Operand} {b p q:Bool} (ho:o.op = .pick c x y) (hc:aQ ρ c = .bool b) (hx:b=true→aQ ρ x = .bool p) (hy:b=false→aQ ρ y = .bool q) :
  bi P ρ o L (.bool (bif b then p else q)):=fun ev w c he _=>by
 subst he
 cases b
 ·simp [execOp,ho,hc,asBool,hy rfl]
 ·simp [execOp,ho,hc,asBool,hx rfl]
theorem cL {op:BinOp}  {x:Operand} {k k' : IntKind} :(eqGuard op t x y (.int k a) (.int k' b)).run P w = .ok () w:=by
 cases op <;> simp [eqGuard]
theorem aiW {x:Operand} {k:IntKind}  (ho:o.op = .binOp .add t x y t') (hx:aQ ρ x = .int k a) (hy:aQ ρ y = .int k b) :
  bi P ρ o L (.int k (k.wrap (a+b))):=fun ev w c he _=>by
 subst he; simp [execOp,ho,hx,hy,cL,binOp,Op.intArith,Result.andThen]
theorem aiK {x:Operand} {k:IntKind}  (ho:o.op = .binOp .sub t x y t') (hx:aQ ρ x = .int k a) (hy:aQ ρ y = .int k b) :
  bi P ρ o L (.int k (k.wrap (a - b))):=fun ev w c he _=>by
 subst he; simp [execOp,ho,hx,hy,cL,binOp,Op.intArith,Result.andThen]
theorem aiJ {x:Operand} {k:IntKind}  (ho:o.op = .binOp .mul t x y t') (hx:aQ ρ x = .int k a) (hy:aQ ρ y = .int k b) :
  bi P ρ o L (.int k (k.wrap (a * b))):=fun ev w c he _=>by
 subst he; simp [execOp,ho,hx,hy,cL,binOp,Op.intArith,Result.andThen]
theorem ajh {x:Operand} {k:IntKind}  (ho:o.op = .binOp .quo t x y t') (hx:aQ ρ x = .int k a) (hy:aQ ρ y = .int k b) (hb:(b==0)=false) :
  bi P ρ o L (.int k (k.wrap (a.tdiv b))):=fun ev w c he _=>by
 have : ¬ b=0:=by simpa using hb
 subst he; simp [execOp,ho,hx,hy,cL,binOp,Op.intDiv,Result.andThen,this]
theorem aiZ {x:Operand} {k:IntKind}  (ho:o.op = .binOp .rem t x y t') (hx:aQ ρ x = .int k a) (hy:aQ ρ y = .int k b) (hb:(b==0)=false) :
  bi P ρ o L (.int k (a.tmod b)):=fun ev w c he _=>by
 have : ¬ b=0:=by simpa using hb
 subst he; simp [execOp,ho,hx,hy,cL,binOp,Op.intDiv,Result.andThen,this]
theorem ai8 {x:Operand} {k:IntKind}  (ho:o.op = .binOp .lss t x y t') (hx:aQ ρ x = .int k a) (hy:aQ ρ y = .int k b) :
  bi P ρ o L (.bool (decide (a<b))):=fun ev w c he _=>by
 subst he; simp [execOp,ho,hx,hy,cL,binOp,Op.intCmp,Result.andThen]
theorem aiQ {x:Operand} {k:IntKind}  (ho:o.op = .binOp .leq t x y t') (hx:aQ ρ x = .int k a) (hy:aQ ρ y = .int k b) :
  bi P ρ o L (.bool (decide (a≤b))):=fun ev w c he _=>by
 subst he; simp [execOp,ho,hx,hy,cL,binOp,Op.intCmp,Result.andThen]
theorem aiO {x:Operand} {k:IntKind}  (ho:o.op = .binOp .gtr t x y t') (hx:aQ ρ x = .int k a) (hy:aQ ρ y = .int k b) :
  bi P ρ o L (.bool (decide (b<a))):=fun ev w c he _=>by
 subst he; simp [execOp,ho,hx,hy,cL,binOp,Op.intCmp,Result.andThen]
theorem ai1 {x:Operand} {k:IntKind}  (ho:o.op = .binOp .geq t x y t') (hx:aQ ρ x = .int k a) (hy:aQ ρ y = .int k b) :
  bi P ρ o L (.bool (decide (b≤a))):=fun ev w c he _=>by
 subst he; simp [execOp,ho,hx,hy,cL,binOp,Op.intCmp,Result.andThen]
theorem ajo {x:Operand} {k:IntKind}  (ho:o.op = .binOp .eql t x y t') (hx:aQ ρ x = .int k a) (hy:aQ ρ y = .int k b) :
  bi P ρ o L (.bool (a==b)):=fun ev w c he _=>by
 subst he; simp [execOp,ho,hx,hy,cL,binOp,Op.intCmp,Result.andThen]
theorem ajg {x:Operand} {k:IntKind}  (ho:o.op = .binOp .neq t x y t') (hx:aQ ρ x = .int k a) (hy:aQ ρ y = .int k b) :
  bi P ρ o L (.bool (a != b)):=fun ev w c he _=>by
 subst he; simp [execOp,ho,hx,hy,cL,binOp,Op.intCmp,Result.andThen]
theorem aiL {x:Operand} {b:Bool} (ho:o.op = .unOp .not t x) (hx:aQ ρ x = .bool b):bi P ρ o L (.bool (!b)):=fun ev w c he _=>by
 subst he; simp [execOp,ho,hx,Op.unary]
theorem aiU {x:Operand} {k:IntKind}  (ho:o.op = .unOp .neg t x) (hx:aQ ρ x = .int k a):bi P ρ o L (.int k (k.wrap (0 - a))):=fun ev w c he _=>by
 subst he; simp [execOp,ho,hx,Op.unary,Op.intArith]
theorem ahv {s d:TypeId} {x:Operand} {k k' : IntKind} {ds:TypeDesc} (ho:o.op = .convert s d x) (hs:P.underlying s=some ds) (hd:P.underlying d=some (.int k')) (hx:aQ ρ x = .int k a) :
  bi P ρ o L (.int k' (k'.wrap a)):=fun ev w c he _=>by
 subst he; simp [execOp,ho,hx,convert,run_underlying hs,run_underlying hd,Conv.intToInt,Result.andThen]
theorem RF {e:TypeId} {x:Operand} {h:Hd} (ho:o.op = .call { callee:=.builtin .len,args:=#[x],argTypes:=#[t] }) (ht:P.underlying t=some (.slice e)) (hx:aQ ρ x=h.val) :
  bi P ρ o L (.int .i64 h.n):=fun ev w c he _=>by
 subst he; simp [execOp,ho,hx,resolve,invoke,builtin,Builtin.len_,run_underlying ht,goInt,Result.andThen]
theorem ad9 {c:bu} {t:Ty}  {xs:List t.den} {h:Hd} (hA:HA.holds w c (.rep t K xs h)):h.n=xs.length:=by
 obtain ⟨ys,_,hs,_⟩:=hA; exact hs
theorem Uz {e:TypeId} {x:Operand} {h:Hd} {ty:Ty}  {xs:List ty.den} (k:Nat) (hk:L[k]? = some (.rep ty K xs h))
  (ho:o.op = .call { callee:=.builtin .len,args:=#[x],argTypes:=#[t] }) (ht:P.underlying t=some (.slice e)) (hx:aQ ρ x=h.val) :
  bi P ρ o L (.int .i64 xs.length):=fun ev w c he hL=>by
 rw [← ad9 (hL.at hk)]; exact RF ho ht hx ev w c he hL
theorem aiE {ts:Array TypeId} {x:Operand} {k:IntKind} (ho:o.op = .call { callee:=.builtin .max,args:=#[x,y],argTypes:=ts }) (hx:aQ ρ x = .int k a) (hy:aQ ρ y = .int k b) :
  bi P ρ o L (.int k (if b > a then b else a)):=fun ev w c he _=>by
 subst he; simp [execOp,ho,hx,hy,resolve,invoke,builtin,run_max_int2,Result.andThen]
theorem aje {ts:Array TypeId} {x:Operand} {k:IntKind} (ho:o.op = .call { callee:=.builtin .min,args:=#[x,y],argTypes:=ts }) (hx:aQ ρ x = .int k a) (hy:aQ ρ y = .int k b) :
  bi P ρ o L (.int k (if b<a then b else a)):=fun ev w c he _=>by
 subst he; simp [execOp,ho,hx,hy,resolve,invoke,builtin,run_min_int2,Result.andThen]
theorem Un {x:Operand} {v:Value} (ho:o.op = .extract x i) (hx:aQ ρ x = .tuple vs.toArray) (hv:vs[i]? = some v):bi P ρ o L v:=fun ev w c he _=>by
 subst he; simp [execOp,ho,hx,Instr.extract,hv]
theorem vl {s:TypeId} {x:Operand} {b off fo f:Nat} {sz:Nat}  (ho:o.op = .fieldAddr s x f) (hs:P.underlying s=some (.struct fs)) (hf:fs[f]? = some fd)
  (hi:TI P fd.type sz by_ z) (hz:Nat.beq sz 0=false) (hfo:fd.offset=fo) (hx:aQ ρ x = .pointer (some ⟨b,off,none⟩)):bi P ρ o L (.pointer (some ⟨b,off+fo,none⟩)):=fun ev w c he _=>by
 subst he
 have htihi:=hi; clear hi
 obtain ⟨i,hi,_,rfl,_⟩:=htihi.get
 have hz' : i.size≠0:=adW hz
 have hadd:(⟨b,off,none⟩:Addr).add fd.offset=⟨b,off+fo,none⟩:=by
  unfold Addr.add; split <;> simp_all
 simp [execOp,ho,hx,Instr.fieldAt,run_underlying hs,hf,Instr.sureAddr,fieldPlace,sizeOf,typeInfo,hi,hz',hadd,Result.andThen]
theorem mv (ht:P.underlying t=some d) (hd:lk d=false):(isAgg t).run P w = .ok false w:=by
 unfold isAgg
 simp only [bind,Sem.run_bind',run_underlying ht,Result.andThen]
 cases d <;> first | rfl | simp [lk] at hd | simp [SO] at hd
theorem wP (ht:P.underlying t=some d) (hd:lk d=true):(isAgg t).run P w = .ok true w:=by
 unfold isAgg
 simp only [bind,Sem.run_bind',run_underlying ht,Result.andThen]
 cases d <;> first | rfl | simp [lk] at hd | simp [SO] at hd
theorem eP (b off n:Nat):(⟨b,off,none⟩:Addr).add n=⟨b,off+n,none⟩:=by
 unfold Addr.add; split <;> simp_all
theorem mC {b off:Nat} {arr:Array Value}  {fz:Nat×Nat} (hb:w.heap[b]? = some (.cells arr ty fz)):w.cell? ⟨b,off,none⟩=arr[off]? := by
 simp [World.cell?,hb]
theorem uF {a:Addr} {v:Value} (ht:P.underlying t=some d) (hd:lk d=false)
  (hc:w.cell? a=some v):(Instr.loadAt t (.pointer (some a))).run P w = .ok v w:=by
 simp [Instr.loadAt,Instr.sureAddr,loadVar,mv ht hd,hc,Result.andThen]
theorem u6 {b off:Nat} {arr:Array Value}  {fz:Nat×Nat} {i:TypeInfo}  (ht:P.underlying t=some d)
  (hd:lk d=true) (hi:P.info? t=some i) (hb:w.heap[b]? = some (.cells arr ty fz)) (hcs:(arr.toList.drop off).take i.size=cs) (hl:cs.length=i.size) :
  (Instr.loadAt t (.pointer (some ⟨b,off,none⟩))).run P w = .ok (.agg cs.toArray) w:=by
 have hload:=run_loadCells_list (P:=P) (w:=w) ⟨b,off,none⟩ cs (fun j v hv=>by
  rw [eP,mC hb]
  rw [← hcs,Xc] at hv
  split at hv
  ·simpa [Xl] using hv
  ·cases hv)
 rw [hl] at hload
 simp [Instr.loadAt,Instr.sureAddr,loadVar,wP ht hd,sizeOf,typeInfo,hi,hload,Result.andThen]
theorem Bv {x:Operand} {b off:Nat}  {v:Value}  (k:Nat) (hk:L[k]? = some (.box i b cs)) (ho:o.op = .load t x) (ht:P.underlying t=some d)
  (hd:lk d=false) (hx:aQ ρ x = .pointer (some ⟨b,off,none⟩)) (hv:cs[off]? = some v):bi P ρ o L v:=fun ev w c he hL=>by
 subst he
 obtain ⟨⟨ty,hb⟩,_⟩:=hL.at hk
 simp [execOp,ho,hx,uF ht hd (v:=v) (w:=w) (by rw [mC hb]; simpa using hv),Result.andThen]
theorem LZ {x:Operand} {b off:Nat}   {sz:Nat}  (k:Nat) (hk:L[k]? = some (.box i b cs)) (ho:o.op = .load t x) (ht:P.underlying t=some d)
  (hd:lk d=true) (hi:TI P t sz by_ z) (hx:aQ ρ x = .pointer (some ⟨b,off,none⟩))
  (hv:(cs.drop off).take sz=cs') (hl:Nat.beq cs'.length sz=true):bi P ρ o L (.agg cs'.toArray):=fun ev w c he hL=>by
 subst he
 have htihi:=hi; clear hi
 obtain ⟨inf,hi,_,rfl,_⟩:=htihi.get
 obtain ⟨⟨ty,hb⟩,_⟩:=hL.at hk
 simp [execOp,ho,hx,u6 ht hd hi hb (cs:=cs') (off:=off) (by simpa using hv) (Vb hl),Result.andThen]
theorem tp {c:bu} (hN:Nat.ble 2 N=true) (ob:Obj):Stp [] w c (w.alloc ob) (fun b=>if b<w.heap.size then c b else N):=by
 have h2:=Vg hN
 refine .mk0 (by simp) (fun b hb=>by simp [hb]) (fun b hb _=>heap_alloc_old w ob hb) (fun b hb _=>?_) ⟨rfl,rfl⟩
 show 2≤if b<w.heap.size then c b else N
 rw [if_neg (by omega)]; exact h2
theorem T4 {a:Act} {ev:Operand→Value} {c:bu} {next:Act→World→Prop} {Q:Exit→Act→World→Prop}   (hN:Nat.ble 2 N=true)
  (hrun:(execOp ev o).run P w = .ok (.value (.pointer (some ⟨w.heap.size,0,none⟩))) (w.alloc (.cells cs.toArray ty)))
  (hk : ∀ (y:Nat) w' c',Stp [] w c w' c' → am w' c' [.box N y cs]→next (a.put o.dst (.pointer (some ⟨y,0,none⟩))) w') :
  o.upon P a next Q ((execOp ev o).run P w):=by
 rw [hrun]
 exact hk w.heap.size _ _ (tp hN _) (am.cons ⟨⟨ty,heap_alloc_new w _⟩,by simp⟩ (am.nil _ _))
theorem Xz {sz:Nat}   (ho:o.op = .alloc t) (hi:TI P t sz by_ z) (hcs:z.cells=cs.toArray) (hN:Nat.ble 2 N=true) :
  cU P ρ o L [] (fun b:Nat=>.pointer (some ⟨b,0,none⟩)) (fun b=>[.box N b cs]):=fun a ev w c next Q _ _ hk=>by
 have htihi:=hi; clear hi
 obtain ⟨i,hi,hz,_,_⟩:=htihi.get
 exact T4 (ty:=t) hN (by simp [execOp,ho,Instr.alloc,zeroValue,typeInfo,hi,hz,newVar,newRow,hcs]) hk
theorem ahS {x:Operand} {v:Value}  (ho:o.op = .box t x) (hx:aQ ρ x=v) (hcs:v.cells=cs.toArray) (hN:Nat.ble 2 N=true) :
  cU P ρ o L [] (fun b:Nat=>.pointer (some ⟨b,0,none⟩)) (fun b=>[.box N b cs]):=fun a ev w c next Q ha _ hk=>
 T4 (ty:=t) hN (by simp [execOp,ho,ha,hx,Instr.box,newVar,newRow,hcs]) hk
theorem y4 {l:List Value} (h:l.all Value.oneCell' = true) : ∀ v∈l,v.oneCell' = true:=Vx.1 h
theorem rL (w:World) (g:Nat) (cs:Array Value):(w.setRow g cs).heap.size=w.heap.size:=by simp [World.setRow]
theorem sP {c:bu} {b:Nat} {cs:Array Value} (hc:c b=i):Stp [i] w c (w.setRow b cs) c:=by
 refine .mk0 (by rw [rL]; exact Wb _) (fun _ _=>rfl) (fun b' hb' hn=>?_) (fun b' h1 h2=>by rw [rL] at h2; omega) ⟨rfl,rfl⟩
 have:b≠b' := fun e=>hn (by rw [← e,hc]; simp)
 simp [World.setRow,aeR,this]
theorem yv {x:Operand} {b off:Nat}  {v:Value} {sz:Nat} (k:Nat) (hk:L[k]? = some (.box i b cs)) (ho:o.op = .store t x y) (hi:TI P t sz by_ z)
  (hx:aQ ρ x = .pointer (some ⟨b,off,none⟩)) (hy:aQ ρ y=v) (hv:v.cells=vs.toArray) (hl:Nat.beq vs.length sz=true) (hones:vs.all Value.oneCell' = true)
  (hin:Nat.ble (off+vs.length) cs.length=true) (hcs:cs.take off++vs++cs.drop (off+vs.length)=cs'):cU P ρ o L [i] (fun _:Unit=>undef) (fun _=>[.box i b cs']):=by
 intro a ev w c next Q ha hL hn
 have htihi:=hi; clear hi
 obtain ⟨inf,hi,_,rfl,_⟩:=htihi.get
 obtain ⟨⟨ty,hb⟩,hc⟩:=hL.at hk
 have hle:=Vg hin
 have hst:=run_storeCells_at P b off ty vs 0 cs.toArray w hb (by simpa using hle) (y4 hones)
 have hrun:(execOp ev o).run P w = .ok .skip (w.setRow b cs'.toArray):=by
  simp only [W4] at hst
  simp [execOp,ho,ha,hx,hy,Instr.storeAt,Instr.sureAddr,storeVar,hv,sizeOf,typeInfo,hi,Vb hl,hst,← hcs,Result.andThen]
 rw [hrun]
 have hrow:=setRow_heap w b _ cs'.toArray ty (0,0) hb
 exact hn () _ c (sP hc) (am.cons ⟨⟨ty,hrow⟩,hc⟩ (am.nil _ _))
end
def ac {α:Type} (xs:List α) (i:Int):Option α:=if 0≤i then xs[i.toNat]? else none
theorem nj {xs:List α} {i:Int} {x:α} (h:ac xs i=some x):0≤i∧xs[i.toNat]? = some x∧i.toNat<xs.length:=by
 unfold ac at h
 split at h
 ·rename_i h0
  exact ⟨h0,h,(VN.1 h).1⟩
 ·simp at h
def facts:(t:Ty)→List Nat→t.den→t.Refs→List HA
 | .one _ _ _,_,_,_=>[]
 | .arr _ _ _ _ _,_,_,_=>[]
 | .unit,_,_,_=>[]
 | .pair a b,K,x,y=>facts a K x.1 y.1++facts b K x.2 y.2
 | .slice t,K,xs,h=>[.rep t K xs h]
 | .node,K,x,h=>[.rep .node K x.tup.2.2.2 h]
 | .mp _ _,_,_,_=>[]
theorem pH {w:World} {c:bu} {K:List Nat}:(t:Ty)→(x:t.den)→(y:t.Refs)→bM w (fun b=>c b∈K) t x y→am w c (facts t K x y)
 | .one _ _ _,_,_,_=>am.nil _ _
 | .arr _ _ _ _ _,_,_,_=>am.nil _ _
 | .unit,_,_,_=>am.nil _ _
 | .pair a b,x,y,h=>(pH a x.1 y.1 h.1).append (pH b x.2 y.2 h.2)
 | .slice _,_,_,h=>am.cons h (am.nil _ _)
 | .node,_,_,h=>am.cons (oo.1 h) (am.nil _ _)
 | .mp _ _,_,_,_=>am.nil _ _
theorem wY {w:World} {c:bu} {K:List Nat}:(t:Ty)→(x:t.den)→(y:t.Refs)→am w c (facts t K x y)→bM w (fun b=>c b∈K) t x y
 | .one _ _ _,_,_,_=>trivial
 | .arr _ _ _ _ _,_,_,_=>trivial
 | .unit,_,_,_=>trivial
 | .pair a b,x,y,h=>⟨wY a x.1 y.1 fun A hA=>h A (Ww _ hA),wY b x.2 y.2 fun A hA=>h A (WQ _ hA)⟩
 | .slice t,xs,hd,h=>h (.rep t K xs hd) (by simp [facts])
 | .node,x,hd,h=>oo.2 (h (.rep .node K x.tup.2.2.2 hd) (by simp [facts]))
 | .mp _ _,_,_,_=>trivial
abbrev Ty.nodeT:Ty:=.pair (.one Int (fun x=>.int .i64 x) (fun _=>rfl)) (.pair (.one (List UInt8) (fun x=>.string ⟨x.toArray⟩) (fun _=>rfl)) (.pair (.one Int (fun x=>.int .i64 x) (fun _=>rfl)) (.slice .node)))
inductive Pth:Ty→Ty→Type 1
 | here {t:Ty}:Pth t t
 | fst {a b t:Ty} (p:Pth a t):Pth (.pair a b) t
 | snd {a b t:Ty} (p:Pth b t):Pth (.pair a b) t
 | nd {t:Ty} (p:Pth Ty.nodeT t):Pth .node t
def Pth.get : {t u:Ty}→Pth t u→t.den→u.den
 | _,_, .here,x=>x
 | _,_, .fst p,x=>p.get x.1
 | _,_, .snd p,x=>p.get x.2
 | _,_, .nd p,x=>p.get x.tup
def Pth.set : {t u:Ty}→Pth t u→t.den→u.den→t.den
 | _,_, .here,_,z=>z
 | _,_, .fst p,x,z=>(p.set x.1 z,x.2)
 | _,_, .snd p,x,z=>(x.1,p.set x.2 z)
 | _,_, .nd p,x,z=>Nd.of (p.set x.tup z)
def Pth.refs : {t u:Ty}→Pth t u→t.Refs→u.Refs
 | _,_, .here,x=>x
 | _,_, .fst p,x=>p.refs x.1
 | _,_, .snd p,x=>p.refs x.2
 | _,_, .nd p,h=>p.refs ((),(),(),h)
def Pth.off : {t u:Ty}→Pth t u→Nat
 | _,_, .here=>0
 | _,_, .fst p=>p.off
 | _,_,@Pth.snd a _ _ p=>a.sz+p.off
 | _,_, .nd p=>p.off
theorem Pth.le : {t u:Ty}→(p:Pth t u)→p.off+u.sz≤t.sz
 | _,_, .here=>by simp [Pth.off]
 | _,_, .fst p=>by have:=p.le; simp [Pth.off,Ty.sz]; omega
 | _,_, .snd p=>by have:=p.le; simp [Pth.off,Ty.sz]; omega
 | _,_, .nd p=>p.le
theorem Pth.cells : {t u:Ty}→(p:Pth t u)→(x:t.den)→(y:t.Refs)→((t.fill x y).drop p.off).take u.sz=u.fill (p.get x) (p.refs y)
 | _,u, .here,x,y=>by simp [Pth.off,Pth.get,Pth.refs,← u.fill_length x y]
 | _,u, .fst (a:=a) (b:=b) p,x,y=>by
  have:=p.cells x.1 y.1
  have hl:=p.le
  have h1:=a.fill_length x.1 y.1
  simp only [Pth.off,Ty.fill,Pth.get,Pth.refs]
  rw [W6,X9,show u.sz - (List.drop p.off (a.fill x.1 y.1)).length=0 by simp; omega]
  simpa using this
 | _,u, .snd (a:=a) (b:=b) p,x,y=>by
  have:=p.cells x.2 y.2
  have h1:=a.fill_length x.1 y.1
  simp only [Pth.off,Ty.fill,Pth.get,Pth.refs]
  rw [W6,Wq (as:=a.fill x.1 y.1) (by omega),show a.sz+p.off - (a.fill x.1 y.1).length=p.off by omega]
  simpa using this
 | _,_, .nd p,x,h=>p.cells x.tup ((),(),(),h)
theorem Pth.rep : {t u:Ty}→(p:Pth t u)→(x:t.den)→(y:t.Refs)→bM w S t x y→bM w S u (p.get x) (p.refs y)
 | _,_, .here,_,_,h=>h
 | _,_, .fst p,x,y,h=>p.rep x.1 y.1 h.1
 | _,_, .snd p,x,y,h=>p.rep x.2 y.2 h.2
 | _,_, .nd p,x,y,h=>p.rep x.tup ((),(),(),y) ⟨trivial,trivial,trivial,oo.1 h⟩
def pq (place:Nat→Option (Nat×Nat)) (cells:List Value):List (Nat×List Value)→Option (List Value)
 | []=>some cells
 | (i,vs)::rest=>match place i with
  | none=>none
  | some (off,size)=>bif Nat.beq vs.length size&&Nat.ble (off+vs.length) cells.length then pq place (cells.take off++vs++cells.drop (off+vs.length)) rest else none
theorem H3 : ∀ (vs:List Value) (k off:Nat) (cs:Array Value),off+k+vs.length≤cs.size →
  (vs.zipIdx k).foldl (fun cs (x:Value×Nat)=>cs.setIfInBounds (off+x.2) x.1) cs=(cs.toList.take (off+k)++vs++cs.toList.drop (off+k+vs.length)).toArray
 | [],k,off,cs,_=>by apply aev; simp
 | v::vs,k,off,cs,h=>by
  simp only [Ws] at h
  rw [List.zipIdx_cons,aeY,H3 vs (k+1) off _ (by simp; omega)]
  have hl:off+k<cs.toList.length:=by simp; omega
  have ht:(cs.toList.take (off+k)).length=off+k:=by simp; omega
  apply aev
  simp only [af5,List.set_eq_take_append_cons_drop,if_pos hl]
  rw [show off+(k+1)=(cs.toList.take (off+k)).length+1 by omega,List.take_length_add_append,adu (cs.toList.take (off+k)).length 1 vs.length,List.drop_length_add_append]
  simp only [aeo,ZS,V8,YB,XI]
  rw [Nat.add_comm 1 vs.length,adL,ady]
  rw [Ws,adu (off+k),Nat.add_comm 1 vs.length]
theorem xI (place:Nat→Option (Nat×Nat)) (parts:Array (Nat×Operand)) (ρ:db) : ∀ (vals:List (Nat×List Value)) (zero cells:List Value),
  parts.toList.map (fun p=>(p.1,(aQ ρ p.2).cells.toList))=vals→pq place zero vals=some cells →
  Instr.fill place zero.toArray (parts.map fun p=>(p.1,aQ ρ p.2)).toList=some cells.toArray:=by
 intro vals zero cells hp h
 have gen : ∀ (ps:List (Nat×Operand)) (vals:List (Nat×List Value)) (zero:List Value),ps.map (fun p=>(p.1,(aQ ρ p.2).cells.toList))=vals→pq place zero vals=some cells →
   Instr.fill place zero.toArray (ps.map fun p=>(p.1,aQ ρ p.2))=some cells.toArray:=by
  intro ps
  induction ps with
  | nil=>
   intro vals zero hp h
   subst hp
   simp only [Zy,pq,Va] at h
   subst h
   rfl
  | cons p ps ih=>
   intro vals zero hp h
   subst hp
   simp only [WD,pq] at h
   cases hpl:place p.1 with
   | none=>simp [hpl] at h
   | some os=>
    obtain ⟨off,size⟩:=os
    simp only [hpl] at h
    cases hc:Nat.beq (aQ ρ p.2).cells.toList.length size&&Nat.ble (off+(aQ ρ p.2).cells.toList.length) zero.length
    ·rw [hc] at h; cases h
    ·rw [hc] at h
     simp only [Vf] at hc
     have h1:=Vb hc.1
     have h2:=Vg hc.2
     have:=ih _ _ rfl h
     have h1' : (aQ ρ p.2).cells.size=size:=by simpa using h1
     have h2' : off+(aQ ρ p.2).cells.size≤zero.length:=by simpa using h2
     simp only [WD,Instr.fill,hpl]
     rw [if_neg (by simp [h1']; omega)]
     rw [← Array.foldl_toList,Array.toList_zipIdx]
     have hf:=H3 (aQ ρ p.2).cells.toList 0 off zero.toArray (by simpa using h2')
     simp only [W4] at hf
     rw [show (List.foldl (fun cs x=>match x with | (c,j)=>cs.setIfInBounds (off+j) c) zero.toArray (aQ ρ p.2).cells.toList.zipIdx)=_ from hf]
     exact this
 simpa using gen parts.toList vals zero hp h
section
variable {P:Program} {ρ:db} {L:List HA} {o:Oper} {N:Nat}
theorem wc {Y:Type} {val:Y→Value} {Φ:Y→List HA} (h : ∀ (ev:Operand→Value) (w:World) (c:bu),ev=aQ ρ→am w c L→∃ y,(execOp ev o).run P w = .ok (.value (val y)) w∧am w c (Φ y)):cU P ρ o L [] val Φ:=by
 intro a ev w c next Q ha hL hk
 obtain ⟨y,hr,hF⟩:=h ev w c ha hL
 rw [hr]
 exact hk y w c (Stp.refl w c) hF
theorem Qg {x:Operand}   {f:α→Value} {hf : ∀ x,(f x).oneCell' = true}  {p:Addr} {v:α} (k:Nat) (hk:L[k]? = some (.elem (.one α f hf) K v p)) (ho:o.op = .load t x)
  (ht:P.underlying t=some d) (hd:lk d=false) (hx:aQ ρ x = .pointer (some p)):bi P ρ o L (f v):=fun ev w c he hL=>by
 subst he
 obtain ⟨y,b,off,arr,ty,fz,rfl,_,hb,hle,hcs,_⟩:=hL.at hk
 have hc:w.cell? ⟨b,off,none⟩=some (f v):=by
  rw [mC hb]
  have:=Xw (·[0]?) hcs
  simpa [Ty.fill,Xc] using this
 simp [execOp,ho,hx,uF ht hd hc]
def ub (t:Ty) (K:List Nat):List t.den→List t.Refs→List HA
 | x::xs,y::ys=>facts t K x y++ub t K xs ys
 | _,_=>[]
theorem Eb {w:World} {c:bu} {K:List Nat} (t:Ty) : ∀ {xs:List t.den} {ys:List t.Refs},xs.length=ys.length→am w c (ub t K xs ys)→bX (bM w (fun b=>c b∈K) t) xs ys
 | [],[],_,_=>trivial
 | x::xs,y::ys,hl,h=>⟨wY t x y fun A hA=>h A (Ww _ hA),Eb t (by simpa using hl) fun A hA=>h A (WQ _ hA)⟩
 | [],_::_,hl,_=>by simp at hl
 | _::_,[],hl,_=>by simp at hl
theorem yh {c:bu} {v:Value}  (hi:Nat.ble 2 i=true) (hg:w.grownBy w' v.ownBlock) (hc : ∀ g,v.ownBlock=some g→c g=i):Stp [i] w c w' (fun b=>if b<w.heap.size then c b else i):=by
 refine .mk0 hg.size (fun b hb=>by simp [hb]) (fun b hb hn=>hg.block b hb fun e=>hn ?_) (fun b h1 _=>?_) ⟨hg.os,hg.output⟩
 ·rw [hc b e.symm]; simp
 ·show 2≤if b<w.heap.size then c b else i
  rw [if_neg (by omega)]; exact Vg hi
theorem C2 {c:bu} {h' : Hd}  {v:Value} (hb : ∀ g,h'.val.ownBlock=some g→v.ownBlock=some g∨w.heap.size≤g)
  (hc : ∀ g,v.ownBlock=some g→c g=i) : ∀ g,h'.val.ownBlock=some g→(fun b=>if b<w.heap.size then c b else i) g=i:=by
 intro g hg
 show (if g<w.heap.size then c g else i)=i
 split
 ·rename_i hlt
  rcases hb g hg with h | h
  ·exact hc g h
  ·omega
 ·rfl
theorem Dz {e:TypeId} {i:TypeInfo}  (ht:P.underlying t=some (.slice e)) (hi:P.info? e=some i) (hz:i.zero=some z) (hzs:z.cells.size=i.size) (hsz:0<i.size)
  {h:Hd}   (hown:w.ownsRow 0 e i.size h.val n xs) {x:Hd}  {news:List Value} (hl:news.length=m * i.size) (hx:(x.a=none∧m=0∧x.n=0∧x.cap=0)∨∃ a,x.a=some a∧x.n=m∧∀ j u,news[j]? = some u→w.cell? (a.add j)=some u)
  (h1 : ∀ u∈news,u.oneCell' = true) (h63:n+m≤maxLen) (hbytes:(n+m) * i.bytes≤140737488355328) :
  ∃ (h' : Hd) (w' : World),(Builtin.append_ #[t,t] ty #[h.val,x.val]).run P w = .ok h'.val w' ∧ w'.ownsRow 0 e i.size h'.val (n+m) (xs++news)∧w.grownBy w' h.val.ownBlock ∧
   (∀ g,h'.val.ownBlock=some g→h.val.ownBlock=some g∨w.heap.size≤g):=by
 have toHd : ∀ (v' : Value) (w' : World),w'.ownsRow 0 e i.size v' (n+m) (xs++news)→∃ h' : Hd,v' = h'.val:=by
  intro v' w' ho
  rcases ho.2 with ⟨rfl,_⟩ | ⟨g,cap,cur,rfl,_⟩
  ·exact ⟨⟨none,0,0⟩,rfl⟩
  ·exact ⟨⟨some ⟨g,0,none⟩,n+m,cap⟩,rfl⟩
 obtain ⟨xa,xn,xc⟩:=x
 obtain ⟨ha,hn,hcap⟩:=h
 rcases hx with ⟨hxa,rfl,hxn,hxc⟩ | ⟨a,hxa,hxn,hnews⟩
 ·simp only at hxa hxn hxc
  subst hxa hxn hxc
  have hn0:news=[]:=Ya (by simpa using hl)
  subst hn0
  refine ⟨_,w,run_append_owned_none (P:=P) (w:=w) 0 t ty e i i.size ht hi _ n xs hown,by simpa using hown,⟨rfl,rfl,rfl,Wb _,fun _ _ _=>rfl⟩,fun g hg=>.inl hg⟩
 ·simp only at hxa hxn
  subst hxa hxn
  by_cases hroom : ∃ g cap cur,(Hd.val ⟨ha,hn,hcap⟩) = .slice (some ⟨g,0,none⟩) n cap∧w.heap[g]? = some (.cells cur e (0,0))∧n+xn≤cap
  ·obtain ⟨v',w',hr,h2,h3,_⟩:=run_append_own (P:=P) w 0 t ty e i z i.size i.bytes ht hi hz rfl rfl hzs hsz _ n xs hown a xn xc news hl hnews h1 h63 hbytes (adq _)
   obtain ⟨g,cap,cur,hv,hg,hle⟩:=hroom
   have hfit:n * i.size+news.length≤cur.size:=by
    rcases hown.2 with ⟨hv',_⟩ | ⟨g',cap',cur',hv',_,hg',_,_,hcs,_⟩
    ·rw [hv] at hv'; simp at hv'
    ·rw [hv] at hv'
     simp only [Value.slice.injEq,Va,Addr.mk.injEq,ajq,ajr] at hv'
     obtain ⟨rfl,rfl⟩:=hv'
     rw [hg] at hg'
     simp only [Va,Obj.cells.injEq,ajq] at hg'
     subst hg'
     rw [hl,hcs,← YN]; exact XQ _ hle
   have hr2:=run_append_room (P:=P) w t ty e i ht hi g n cap cur hg a xn xc news hl hnews h1 hle hfit
   rw [hv] at hr
   rw [hr2] at hr
   simp only [Result.ok.injEq] at hr
   obtain ⟨rfl,rfl⟩:=hr
   refine ⟨⟨some ⟨g,0,none⟩,n+xn,cap⟩,_,by rw [hv]; exact hr2,h2,h3,fun g' hg' => .inl ?_⟩
   rw [hv]; simpa [Value.ownBlock] using hg'
  ·by_cases hnil:(Hd.val ⟨ha,hn,hcap⟩) = .slice none 0 0
   ·have hown' : w.ownsRow w.heap.size e i.size (Hd.val ⟨ha,hn,hcap⟩) n xs:=by
     refine ⟨hown.1, .inl ⟨hnil,?_⟩⟩
     rcases hown.2 with ⟨_,hn⟩ | ⟨g',cap',cur',hv',_⟩
     ·exact hn
     ·rw [hnil] at hv'; simp at hv'
    obtain ⟨v',w',hr,h2,h3,_⟩:=run_append_own (P:=P) w w.heap.size t ty e i z i.size i.bytes ht hi hz rfl rfl hzs hsz _ n xs hown' a xn xc news hl hnews h1 h63 hbytes (Wb _)
    have h2' : w'.ownsRow 0 e i.size v' (n+xn) (xs++news):=⟨h2.1,h2.2.imp id fun ⟨g,cap,cur,hv,_,hrest⟩=>⟨g,cap,cur,hv,adq _,hrest⟩⟩
    obtain ⟨h',rfl⟩:=toHd v' w' h2'
    exact ⟨h',w',hr,h2',h3,fun g hg=>.inr (h2.lt g hg).1⟩
   ·rcases hown.2 with ⟨hv,_⟩ | ⟨g,cap,cur,hv,_,hg,hnc,hcm,hcs,htake⟩
    ·exact absurd hv hnil
    ·have hgrow:cap<n+xn:=by
      by_cases hle:n+xn≤cap
      ·exact absurd ⟨g,cap,cur,hv,hg,hle⟩ hroom
      ·omega
     have holds : ∀ j u,xs[j]? = some u→w.cell? ((⟨g,0,none⟩:Addr).add j)=some u:=hown.cells (g:=g) (by rw [hv]; rfl)
     have hr:=run_append_grow (P:=P) w t ty e i z ht hi hz ⟨g,0,none⟩ n cap xs hown.1 holds a xn xc news hl hnews hgrow (by simp only [maxLen] at h63; omega) (growslice_fits (by omega) hbytes)
     obtain ⟨v',w',hr',h2,h3,_⟩:=run_append_own (P:=P) w 0 t ty e i z i.size i.bytes ht hi hz rfl rfl hzs hsz _ n xs hown a xn xc news hl hnews h1 h63 hbytes (adq _)
     rw [hv] at hr'
     rw [hr] at hr'
     simp only [Result.ok.injEq] at hr'
     obtain ⟨rfl,rfl⟩:=hr'
     refine ⟨⟨some ⟨w.heap.size,0,none⟩,n+xn,_⟩,_,by rw [hv]; exact hr,h2,h3,fun g' hg' => .inr ?_⟩
     simp [Value.ownBlock] at hg'
     omega
theorem BX {e:TypeId} {sz:Nat} {s x:Operand} {ty:Ty}   {xs ys:List ty.den} {h hx:Hd} (j j' : Nat)
  (hj:L[j]? = some (.own ty e ci K xs h)) (A:HA) (hj' : L[j']? = some A) (hA:Di A (.rep ty K2 ys hx))
  (ho:o.op = .call { callee:=.builtin .append,args:=#[s,x],argTypes:=#[t,t] }) (ht:P.underlying t=some (.slice e)) (hi:TI P e sz by_ z) (hs:sz=ty.sz)
  (hzs:Nat.beq z.cells.size sz=true) (hsz:Nat.ble 1 sz=true) (hse:aQ ρ s=h.val) (hxe:aQ ρ x=hx.val)
  (hroom:decide ((xs.length+ys.length) * by_≤140737488355328∧xs.length+ys.length≤maxLen)=true) (hci:Nat.ble 2 ci=true) (hK:ty.pureB=true∨(K++K2).all (fun k=>!(Nat.beq k ci))=true) (hK' : K++K2=K') (he:Nat.blt e 1048576=true) :
  cU P ρ o L [ci] Hd.val (fun h' => [.own ty e ci K' (xs++ys) h']):=by
 intro a ev w c next Q ha hL hk
 have htihi:=hi; clear hi
 obtain ⟨inf,hi,hz,rfl,rfl⟩:=htihi.get
 obtain ⟨rs,hr1,hown,hcol⟩:=hL.at hj
 obtain ⟨rs2,hr2,hn2,hle2,hm2,hc2⟩:=hA w c (hL.at hj')
 obtain ⟨hb,h63⟩:=Xg hroom
 have hl2:=hr2.length
 have hlen:=cx ty hl2
 replace hown:=hown.plain he
 rw [← hs] at hown hlen
 have hsrc:(hx.a=none∧ys.length=0∧hx.n=0∧hx.cap=0)∨∃ a,hx.a=some a∧hx.n=ys.length∧∀ j u,(cellsOf ty ys rs2)[j]? = some u→w.cell? (a.add j)=some u:=by
  rcases hc2 with ⟨h1,h2⟩ | ⟨b,off,arr,tt,fz,h1,hS,hbb,hfit,hcells⟩
  ·cases hxa:hx.a with
   | none=>exact .inl ⟨rfl,by omega,by omega,h2⟩
   | some a=>
    refine .inr ⟨a,rfl,by omega,fun j u hu=>?_⟩
    have e0:ys=[]:=Ya (by omega)
    have e1:rs2=[]:=Ya (by omega)
    subst e0 e1
    simp [cellsOf] at hu
  ·refine .inr ⟨_,h1,hn2,fun j u hu=>?_⟩
   rw [eP,mC hbb]
   rw [← hcells,Xc] at hu
   split at hu
   ·simpa [Xl] using hu
   ·cases hu
 obtain ⟨h',w',hrun,ho',hg,hblk⟩:=Dz (P:=P) (ty:=o.type) ht hi hz (Vb hzs) (Vg hsz) hown hlen hsrc (kM ty) h63 hb
 have hex:(execOp ev o).run P w = .ok (.value h'.val) w' := by
  simp [execOp,ho,ha,hse,hxe,resolve,invoke,builtin,hrun,Result.andThen]
 rw [hex]
 have hst:=yh hci hg hcol
 refine hk h' w' _ hst (am.cons ⟨rs++rs2,?_,?_,C2 hblk hcol⟩ (am.nil _ _))
 ·rcases hK with hp | hK
  ·exact (hr1.mono fun x y _=>bM.pure ty x y hp).append (hr2.mono fun x y _=>bM.pure ty x y hp)
  ·have hno : ∀ k∈K++K2,k∉[ci]:=fun k hk hm=>by
    have:=Vx.1 hK k hk
    simp only [Vt] at hm
    subst hm
    simp at this
   subst hK'
   exact (hr1.mono (bM.keep (fun b hb hcb=>⟨Ww _ ((hst.keeps (K:=K) (fun k hk=>hno k (Ww _ hk))) b hb hcb).1,((hst.keeps (K:=K) (fun k hk=>hno k (Ww _ hk))) b hb hcb).2⟩) ty)).append
    (hr2.mono (bM.keep (fun b hb hcb=>⟨WQ _ ((hst.keeps (K:=K2) (fun k hk=>hno k (WQ _ hk))) b hb hcb).1,((hst.keeps (K:=K2) (fun k hk=>hno k (WQ _ hk))) b hb hcb).2⟩) ty))
 ·rw [eJ ty hr1.length,Vs,← hs]
  exact y9 ho'
theorem T5 {e:TypeId} {sz:Nat} {s x:Operand} {ty:Ty}   {xs ys:List ty.den} {h hx:Hd} (j j' : Nat)
  (hj:L[j]? = some (.own ty e ci K xs h)) (A:HA) (hj' : L[j']? = some A) (hA:Di A (.rep ty K2 ys hx))
  (ho:o.op = .call { callee:=.builtin .append,args:=#[s,x],argTypes:=#[t,t] }) (ht:P.underlying t=some (.slice e)) (hi:TI P e sz by_ z) (hs:sz=ty.sz)
  (hzs:Nat.beq z.cells.size sz=true) (hsz:Nat.ble 1 sz=true) (hse:aQ ρ s=h.val) (hxe:aQ ρ x=hx.val)
  (hroom:decide ((xs.length+ys.length) * by_≤140737488355328∧xs.length+ys.length≤maxLen)=true) (hci:Nat.ble 2 ci=true) (hK:(K++K2).all (fun k=>!(Nat.beq k ci))=true) (hK' : K++K2=K') (he:Nat.blt e 1048576=true) :
  cU P ρ o L [ci] Hd.val (fun h' => [.own ty e ci K' (xs++ys) h']):=
 BX j j' hj A hj' hA ho ht hi hs hzs hsz hse hxe hroom hci (.inr hK) hK' he
theorem cU.weaken {Y:Type} {val:Y→Value} {Φ Φ' : Y→List HA} (h:cU P ρ o L κ val Φ) (hw : ∀ y w c,am w c (Φ y)→am w c (Φ' y)):cU P ρ o L κ val Φ' :=
 fun a ev w c next Q ha hL hk=>h a ev w c next Q ha hL fun y w' c' hs hF=>hk y w' c' hs (hw y w' c' hF)
theorem zV {e:TypeId} {sz:Nat} {s x:Operand} {ty:Ty}   {xs ys:List ty.den} {h hx:Hd} (hpure:ty.pureB=true) (j j' : Nat)
  (hj:L[j]? = some (.own ty e ci K xs h)) (A:HA) (hj' : L[j']? = some A) (hA:Di A (.rep ty K2 ys hx))
  (ho:o.op = .call { callee:=.builtin .append,args:=#[s,x],argTypes:=#[t,t] }) (ht:P.underlying t=some (.slice e)) (hi:TI P e sz by_ z) (hs:sz=ty.sz)
  (hzs:Nat.beq z.cells.size sz=true) (hsz:Nat.ble 1 sz=true) (hse:aQ ρ s=h.val) (hxe:aQ ρ x=hx.val)
  (hroom:decide ((xs.length+ys.length) * by_≤140737488355328∧xs.length+ys.length≤maxLen)=true) (hci:Nat.ble 2 ci=true) (he:Nat.blt e 1048576=true) :
  cU P ρ o L [ci] Hd.val (fun h' => [.own ty e ci K (xs++ys) h']):=
 (BX j j' hj A hj' hA ho ht hi hs hzs hsz hse hxe hroom hci (.inl hpure) rfl he).weaken fun _ w c hF=>am.cons (yQ hpure w c (hF.at (k:=0) rfl)) (am.nil _ _)
theorem xi {e:TypeId} {sz:Nat} {cells:List Value} {ty:Ty}  {xs:List ty.den} {ys:List ty.Refs}
  (ho:o.op = .buildSlice t n parts) (ht:P.underlying t=some (.slice e)) (hi:TI P e sz by_ z) (_hs:sz=ty.sz) (hsmall:Nat.ble (n * sz) 16777216=true) (h0:Nat.ble 1 (n * sz)=true)
  (hp:parts.toList.map (fun p=>(p.1,(aQ ρ p.2).cells.toList))=vals) (hfill:pq (fun i=>some (i * sz,sz)) ((List.range (n * sz)).map (fun j=>z.cells.toList.getD (j % z.cells.toList.length) default)) vals=some cells)
  (hx:Nat.beq xs.length n=true) (hy:Nat.beq ys.length n=true) (hcells:cellsOf ty xs ys=cells) (hpaid:oG L (ub ty K xs ys)) (hN:Nat.ble 2 N=true) :
  cU P ρ o L [] Hd.val (fun h=>[.own ty e N K xs h]):=by
 intro a ev w c next Q ha hL hk
 have htihi:=hi; clear hi
 obtain ⟨inf,hi,hz,rfl,_⟩:=htihi.get
 have hxl:=Vb hx
 have hyl:=Vb hy
 have hsm:=Vg hsmall
 have hpos:=Vg h0
 have hlen:=cx ty (xs:=xs) (ys:=ys) (by omega)
 have hex:(execOp ev o).run P w = .ok (.value (.slice (some ⟨w.heap.size,0,none⟩) n n)) (w.alloc (.cells cells.toArray e)):=by
  have hsm' : ¬ 16777216<n * inf.size:=by omega
  have hne : ¬ n * inf.size=0:=by omega
  have hfill' := xI _ _ _ _ _ _ hp hfill
  have hzero:(Array.range (n * inf.size)).map (z.cells[· % z.cells.size]!)=((List.range (n * inf.size)).map (fun j=>z.cells.toList.getD (j % z.cells.toList.length) default)).toArray:=by
   apply aev
   simp [Array.getElem!_eq_getD,adc,WT]
  rw [← hzero] at hfill'
  simp only [execOp,ho,ha,Instr.buildSlice,Sem.run_bind,run_underlying ht,sizeOf,typeInfo,zeroValue,run_program,Result.andThen_ok,hi,hz,Sem.run_pure,if_neg hsm',if_neg hne]
  rw [hfill']
  simp [newRow,Result.andThen]
 rw [hex]
 have hst:=tp (w:=w) (c:=c) hN (.cells cells.toArray e)
 refine hk ⟨some ⟨w.heap.size,0,none⟩,n,n⟩ _ _ hst (am.cons ⟨ys,?_,⟨?_, .inr ⟨w.heap.size,n,cells.toArray,e,(0,0),by rw [hxl],heap_alloc_new w _, .inl ⟨rfl,rfl⟩,by omega,?_,?_,?_⟩⟩,fun g hg=>?_⟩ (am.nil _ _))
 ·exact (Eb ty (by omega) (hpaid.heap hL)).mono (bM.keep (hst.keeps (by simp)) ty)
 ·rw [hlen]
 ·simp only [maxLen]
  have:n≤n * inf.size:=ajw n (Nat.pos_of_ne_zero fun h=>by simp [h] at hpos)
  omega
 ·simp only [adb]; rw [← hcells,hlen,hxl]
 ·simp only [hcells]
  rw [WF]
  rw [← hcells,hlen]; exact Wb _
 ·simp [Value.ownBlock] at hg
  subst hg
  simp
theorem CB {e:TypeId} {sz:Nat} {ty:Ty}  (ho:o.op = .buildSlice t 0 parts) (ht:P.underlying t=some (.slice e)) (hi:TI P e sz by_ z) (hp:parts = #[]) (hN:Nat.ble 2 N=true) :
  cU P ρ o L [] Hd.val (fun h=>[.own ty e N K [] h]):=by
 intro a ev w c next Q ha hL hk
 have htihi:=hi; clear hi
 obtain ⟨inf,hi,_,_,_⟩:=htihi.get
 have hex:(execOp ev o).run P w = .ok (.value (.slice (some ⟨w.heap.size,0,none⟩) 0 0)) (w.alloc (.cells #[] e)):=by
  simp [execOp,ho,ha,Instr.buildSlice,run_underlying ht,sizeOf,typeInfo,hi,hp,newRow,Instr.fill,Result.andThen]
  exact Xw (fun x=>w.alloc (.cells x e)) (Array.eq_empty_of_size_eq_zero (by simp))
 rw [hex]
 have hst:=tp (w:=w) (c:=c) hN (.cells #[] e)
 refine hk ⟨some ⟨w.heap.size,0,none⟩,0,0⟩ _ _ hst (am.cons ⟨[],trivial,⟨by simp [cellsOf], .inr ⟨w.heap.size,0,#[],e,(0,0),rfl,heap_alloc_new w _, .inl ⟨rfl,rfl⟩,by simp,by simp [maxLen],by simp,by simp [cellsOf]⟩⟩,fun g hg=>?_⟩ (am.nil _ _))
 ·simp [Value.ownBlock] at hg
  subst hg
  simp
end
structure OSp:Type 1 where
 ex:Bool
 d:Nat
 pre:List Nat
 Y:Type
 val:Y→Value
 Φ:Y→List HA
 κ:List Nat
 eat:List Nat
 tl:List (Nat×(Y→Value))
def aaJ {Y:Type} (ρ:db) (tl:List (Nat×(Y→Value))) (y:Y):Prop:=∀ p∈tl,ρ p.1=p.2 y
def aif {Y:Type} (ρ:db) (y:Y):List (Nat×(Y→Value))→db
 | []=>ρ
 | p::r=>aif (xj ρ p.1 (p.2 y)) y r
def OSp.ok (s:OSp) (ρ:db) (w:World) (c:bu):Prop:=(s.ex=true→∃ y,ρ s.d=s.val y∧aaJ ρ s.tl y∧am w c (s.Φ y))∧(s.ex=false→ρ s.d=undef)
def Ob (P:Program) (o:Oper) (s:OSp) (es:List OSp):List Nat→db→List HA→Prop
 | [],ρ,L=>cU P ρ o L s.κ s.val (fun y=>.pure (aaJ ρ s.tl y)::s.Φ y)
 | j::js,ρ,L=>match es[j]? with
  | none=>False
  | some e=>(e.ex=true→∀ y,Ob P o s es js (xj ρ e.d (e.val y)) (e.Φ y++L))∧(e.ex=false→Ob P o s es js (xj ρ e.d undef) L)
def Fin (R:db→List HA→Prop) (es:List OSp):List Nat→db→List HA→Prop
 | [],ρ,L=>R ρ L
 | j::js,ρ,L=>match es[j]? with
  | none=>False
  | some e=>(e.ex=true→∀ y,Fin R es js (aif (xj ρ e.d (e.val y)) y e.tl) (e.Φ y++L))∧(e.ex=false→Fin R es js (xj ρ e.d undef) L)
def rD (o:Oper):List Nat:=(o.after.toList.filter (Region.binds .any)).map (·.on)
def bZ (j:Nat) (l:List Nat):Bool:=l.any fun k=>Nat.beq j k
theorem mem_iff {j:Nat} {l:List Nat}:bZ j l=true↔j∈l:=by
 simp only [bZ,ac6]
 exact ⟨fun ⟨k,hk,he⟩=>(Vb he) ▸ hk,fun h=>⟨j,h,by simp⟩⟩
def DG (l:List Oper) (cl:List (List Nat)):Bool:=
 (List.range l.length).all fun i=>match l[i]?,cl[i]? with
  | some o,some c=>(rD o).all (fun j=>Nat.blt j i)&&c.all fun j=>bZ j (rD o)||(rD o).any fun k=>match cl[k]? with | some ck=>bZ j ck | none=>false
  | _,_=>false
def CI (o:Oper) (es:List OSp) (pre:List Nat):Bool:=
 o.op.operands.toList.all fun x=>match x with
  | .tmp t=>!(es.any fun e=>Nat.beq t e.d)||pre.any fun j=>match es[j]? with | some e=>Nat.beq t e.d | none=>false
  | _=>true
def WB (s:OSp) (es:List OSp):Bool:=s.tl.all fun p=>s.pre.any fun j=>match es[j]? with | some e=>Nat.beq p.1 e.d | none=>false
def xE (o:Oper):Bool:=match o.op with | .select .. => false | _=>true
def Zr (n:Nat) (o:Oper) (s:OSp) (es:List OSp) (c:List Nat):Prop:=
 match o.guard with
 | none=>s.ex=true
 | some (j,want)=>bZ j c=true∧∃ e b,es[j]? = some e∧Nat.blt e.d n=true∧(∀ y,e.val y = .bool b)∧s.ex=(e.ex&&(b==want))
def PV (n:Nat) (o:Oper) (s:OSp):Prop:=(o.dst=some s.d∧Nat.blt s.d n=true)∨(o.dst=none∧Nat.ble n s.d=true∧∀ y,s.val y=undef)
def y8 (P:Program) (n:Nat) (es:List OSp) (ρ:db) (B:Nat→List HA):List Oper→List OSp→List (List Nat)→Nat→Prop
 | o::l,s::ss,c::cs,i=>(PV n o s∧xE o=true∧s.pre.all (fun j=>bZ j c)=true∧CI o es s.pre=true∧WB s es=true∧Zr n o s es c∧(s.ex=true→Ob P o s es s.pre ρ (B i)))∧y8 P n es ρ B l ss cs (i+1)
 | _,[],_,_=>True
 | _,_,_,_=>False
theorem y8.at {P:Program} {n:Nat} {es:List OSp} {ρ:db} {B:Nat→List HA} : ∀ {l:List Oper} {ss:List OSp} {cs:List (List Nat)} {m i:Nat} {o:Oper} {s:OSp},y8 P n es ρ B l ss cs m→l[i]? = some o→ss[i]? = some s →
  ∃ c,cs[i]? = some c∧PV n o s∧xE o=true∧s.pre.all (fun j=>bZ j c)=true∧CI o es s.pre=true∧WB s es=true∧Zr n o s es c∧(s.ex=true→Ob P o s es s.pre ρ (B (m+i)))
 | o' :: l,s' :: ss,c' :: cs,m,0,o,s,h,ho,hs=>by
  simp at ho hs; subst ho; subst hs
  exact ⟨c',rfl,h.1⟩
 | o' :: l,s' :: ss,c' :: cs,m,i+1,o,s,h,ho,hs=>by
  simp at ho hs
  obtain ⟨c,hc,hr⟩:=y8.at h.2 ho hs
  rw [show m+1+i=m+(i+1) by omega] at hr
  exact ⟨c,by simpa using hc,hr⟩
 | _,[],_,_,i,_,_,_,_,hs=>by simp at hs
 | [],s::ss,cs,_,i,_,_,h,_,_=>by cases cs <;> exact h.elim
 | o::l,s::ss,[],_,i,_,_,h,_,_=>h.elim
def vH (κ eat:List Nat):Nat→List OSp→Prop
 | _,[]=>True
 | k,e::r=>(bZ k eat=true∨∀ y,(e.Φ y).all (qM κ)=true)∧vH κ eat (k+1) r
def S8 (cl:List (List Nat)) (i:Nat):List Nat:=(List.range cl.length).filter fun k=>match cl[k]? with | some c=>bZ i c | none=>false
def FM (es:List OSp) (cl:List (List Nat)):List OSp→Nat→Prop
 | [],_=>True
 | s::r,i=>(s.κ=[]∨vH s.κ (i::(s.eat++S8 cl i)) 0 es)∧FM es cl r (i+1)
theorem vH.at {κ eat:List Nat} : ∀ {es:List OSp} {k j:Nat} {e:OSp},vH κ eat k es→es[j]? = some e→bZ (k+j) eat=true∨∀ y,(e.Φ y).all (qM κ)=true
 | e' :: r,k,0,e,h,he=>by simp at he; subst he; exact h.1
 | e' :: r,k,j+1,e,h,he=>by
  simp at he
  have:=vH.at h.2 he
  rwa [show k+1+j=k+(j+1) by omega] at this
 | [],_,_,_,_,he=>by simp at he
theorem FM.at {es:List OSp} {cl:List (List Nat)} : ∀ {ss:List OSp} {k i:Nat} {s:OSp},FM es cl ss k→ss[i]? = some s→s.κ=[]∨vH s.κ ((k+i)::(s.eat++S8 cl (k+i))) 0 es
 | e' :: r,k,0,e,h,he=>by simp at he; subst he; exact h.1
 | e' :: r,k,j+1,e,h,he=>by
  simp at he
  have:=FM.at h.2 he
  rwa [show k+1+j=k+(j+1) by omega] at this
 | [],_,_,_,_,he=>by simp at he
section
variable {P:Program} {n:Nat} {Q:Exit→Act→World→Prop}
def pS (f:Nat→Bool):Nat→Nat
 | 0=>0
 | k+1=>pS f k+cond (f k) 1 0
theorem KV {f g:Nat→Bool} : ∀ {k:Nat},(∀ j,j<k→f j=g j)→pS f k=pS g k
 | 0,_=>rfl
 | k+1,h=>by simp only [pS,KV (k:=k) fun j hj=>h j (by omega),h k (by omega)]
theorem Mp {f g:Nat→Bool} {i:Nat} (hf:f i=true) (hg:g i=false) : ∀ {k:Nat},i<k→(∀ j,j<k→j≠i→f j=g j)→pS f k=pS g k+1
 | k+1,hi,h=>by
  simp only [pS]
  by_cases he:i=k
  ·subst he
   rw [KV (k:=i) fun j hj=>h j (by omega) (by omega),hf,hg]; rfl
  ·rw [Mp hf hg (k:=k) (by omega) fun j hj hne=>h j (by omega) hne,h k (by omega) (by omega)]; omega
theorem J9 {f:Nat→Bool} : ∀ {k:Nat},pS f k=0→∀ i,i<k→f i=false
 | k+1,h,i,hi=>by
  simp only [pS] at h
  by_cases he:i=k
  ·subst he; cases hf:f i
   ·rfl
   ·rw [hf] at h; simp at h
  ·exact J9 (k:=k) (by omega) i (by omega)
def Eu (listed:Array Bool) (i:Nat):Bool:=!(listed.getD i false)
theorem aeF (hcl:DG l cl=true) {k:Nat} (hk:k<l.length) : ∃ c,cl[k]? = some c:=by
 have h:=Vx.1 hcl k (Y0.2 hk)
 simp only [show l[k]? = some l[k] by simp [hk]] at h
 cases hc:cl[k]? with
 | none=>simp [hc] at h
 | some c=>exact ⟨c,rfl⟩
def J2 (l:List Oper) (listed:Array Bool):Prop:=∀ (i:Nat) (o:Oper),l[i]? = some o→listed.getD i false=true→∀ j∈rD o,listed.getD j false=true
theorem vz (hcl:DG l cl=true)  (hd:J2 l listed) : ∀ (i:Nat) (o:Oper) (c:List Nat),l[i]? = some o→cl[i]? = some c →
  (∀ j∈rD o,listed.getD j false=true)→∀ j∈c,listed.getD j false=true:=by
 intro i
 induction i using Nat.strongRecOn with
 | _ i ih=>
  intro o c ho hc hp j hj
  have hlt:i<l.length:=(VN.1 ho).1
  have h:=Vx.1 hcl i (Y0.2 hlt)
  simp only [ho,hc,Vf] at h
  have h2:=Vx.1 h.2 j hj
  simp only [Yi] at h2
  rcases h2 with h2 | h2
  ·exact hp j (mem_iff.1 h2)
  ·obtain ⟨k,hk,hm⟩:=ac6.1 h2
   have hki:k<i:=Vg (Vx.1 h.1 k hk)
   cases hck:cl[k]? with
   | none=>simp [hck] at hm
   | some ck=>
    simp only [hck] at hm
    have hkl:k<l.length:=by omega
    exact ih k hki l[k] ck (by simp [hkl]) hck (hd k l[k] (by simp [hkl]) (hp k hk)) j (mem_iff.1 hm)
theorem MX (h:i<listed.size) (b:Bool):listed.getD i b=listed.getD i false:=by
 simp [h]
theorem zd {j:Nat} (h:i<listed.size):(listed.setIfInBounds i true).getD j false=(Nat.beq j i||listed.getD j false):=by
 by_cases hij:i=j
 ·subst hij; simp [h]
 ·have:Nat.beq j i=false:=by
   cases hb:Nat.beq j i
   ·rfl
   ·exact absurd (Vb hb).symm hij
  rw [getD_set_ne false hij,this]; rfl
theorem wT (hsz:listed.size=l.length)  (h:i∈Region.ready .any l.toArray listed) :
  ∃ o,l[i]? = some o∧listed.getD i false=false∧∀ j∈rD o,listed.getD j false=true:=by
 rw [mem_ready] at h
 obtain ⟨h0,o,ho,hall⟩:=h
 have ho' : l[i]? = some o:=by simpa using ho
 have hlt:i<l.length:=(VN.1 ho').1
 refine ⟨o,ho',by rw [← MX (by omega) true]; exact h0,fun j hj=>?_⟩
 obtain ⟨e,he,rfl⟩:=VO.1 hj
 simp only [Yc] at he
 exact hall e (by simpa using he.1) he.2
theorem Cc (hcl:DG l cl=true)  (hsz:listed.size=l.length) (h:Region.ready .any l.toArray listed=[]) :
  ∀ i,i<l.length→listed.getD i false=true:=by
 intro i
 induction i using Nat.strongRecOn with
 | _ i ih=>
  intro hi
  cases hb:listed.getD i false
  ·exfalso
   have hmem:i∈Region.ready .any l.toArray listed:=by
    rw [mem_ready]
    have ho:l[i]? = some l[i]:=by simp [hi]
    refine ⟨by rw [MX (by omega)]; exact hb,l[i],by simp [hi],fun e he hbd=>?_⟩
    have hc:=Vx.1 hcl i (Y0.2 hi)
    simp only [ho] at hc
    cases hci:cl[i]? with
    | none=>simp [hci] at hc
    | some c=>
     simp only [hci,Vf] at hc
     have hlt:e.on<i:=Vg (Vx.1 hc.1 e.on (VO.2 ⟨e,Yc.2 ⟨by simpa using he,hbd⟩,rfl⟩))
     exact ih e.on hlt (by omega)
   rw [h] at hmem
   simp at hmem
  ·rfl
theorem Kt (hsz:listed.size=l.length) (hd:J2 l listed)  {o:Oper} (ho:l[i]? = some o) (hp : ∀ j∈rD o,listed.getD j false=true) :
  J2 l (listed.setIfInBounds i true):=by
 have hlt:i<l.length:=(VN.1 ho).1
 intro k o' ho' hk j hj
 rw [zd (by omega)] at hk ⊢
 by_cases hki:k=i
 ·subst hki
  rw [ho] at ho'
  simp only [Va] at ho'
  subst ho'
  rw [hp j hj]; simp
 ·have:Nat.beq k i=false:=by
   cases hb:Nat.beq k i
   ·rfl
   ·exact absurd (Vb hb) hki
  rw [this] at hk
  rw [hd k o' ho' (by simpa using hk) j hj]; simp
def adS (l:List Oper) (cl:List (List Nat)) (p:Nat):Bool:=(List.range l.length).all fun i=>Nat.blt i p||match cl[i]? with | some c=>(List.range i).all fun j=>bZ j c | none=>false
theorem ZW {k:Nat} (hk:k<l.length):l.drop k=l[k]::l.drop (k+1):=by rw [aef hk]
theorem TR (hcl:DG l cl=true) {p:Nat} (hseq:adS l cl p=true) (hpl:p≤l.length)
  (J:Array Bool→Act→World→Prop) (hJend : ∀ listed a w,J listed a w→(∀ i,i<p→listed.getD i false=true)→(∀ i,p≤i→listed.getD i false=false)→wpList P l.toArray Q (l.drop p) a w)
  (hJ : ∀ listed a w i o,J listed a w→J2 l listed→listed.size=l.length→i<p→l[i]? = some o→listed.getD i false=false→(∀ j∈rD o,listed.getD j false=true) →
   wpOp P l.toArray Q i (J (listed.setIfInBounds i true)) a w) :
  ∀ (fuel:Nat) (listed:Array Bool) (a:Act) (w:World),listed.size=l.length→J2 l listed→pS (Eu listed) l.length≤fuel →
   ((J listed a w∧∀ i,p≤i→listed.getD i false=false)∨∃ k,p≤k∧k≤l.length∧(∀ i,listed.getD i false=decide (i<k))∧wpList P l.toArray Q (l.drop k) a w) →
   wpAny P .any l.toArray Q fuel listed a w:=by
 intro fuel
 induction fuel with
 | zero=>
  intro listed a w hsz hd hc hst
  have hall : ∀ i,i<l.length→listed.getD i false=true:=fun i hi=>by
   have:=J9 (Nat.le_zero.1 hc) i hi
   simpa [Eu] using this
  have hready:Region.ready .any l.toArray listed=[]:=by
   cases hr:Region.ready .any l.toArray listed with
   | nil=>rfl
   | cons x xs=>
    obtain ⟨o,ho,hf,_⟩:=wT hsz (i:=x) (by rw [hr]; simp)
    rw [hall x (VN.1 ho).1] at hf
    cases hf
  refine ⟨hready,?_⟩
  rcases hst with ⟨hj,hrest⟩ | ⟨k,hpk,hkl,hk,hw⟩
  ·have hpe:p=l.length:=by
    rcases WG p l.length with h | h
    ·have:=hall p h; rw [hrest p (Wb _)] at this; cases this
    ·omega
   have:=hJend listed a w hj (fun i hi=>hall i (by omega)) hrest
   rw [hpe,adM] at this
   exact this
  ·have hke:k=l.length:=by
    rcases WG k l.length with h | h
    ·have:=hall k h; rw [hk k] at this; simp at this
    ·omega
   rw [hke,adM] at hw
   exact hw
 | succ fuel ih=>
  intro listed a w hsz hd hc hst
  have hst' : (J listed a w∧(∀ i,p≤i→listed.getD i false=false)∧∃ i,i<p∧listed.getD i false=false) ∨
    ∃ k,p≤k∧k≤l.length∧(∀ i,listed.getD i false=decide (i<k))∧wpList P l.toArray Q (l.drop k) a w:=by
   rcases hst with ⟨hj,hrest⟩ | h
   ·by_cases hex : ∃ i,i<p∧listed.getD i false=false
    ·exact .inl ⟨hj,hrest,hex⟩
    ·have hall : ∀ i,i<p→listed.getD i false=true:=fun i hi=>by
      cases hb:listed.getD i false
      ·exact absurd ⟨i,hi,hb⟩ hex
      ·rfl
     refine .inr ⟨p,Wb _,hpl,fun i=>?_,hJend listed a w hj hall hrest⟩
     by_cases hi:i<p
     ·rw [hall i hi]; simp [hi]
     ·rw [hrest i (by omega)]; simp [hi]
   ·exact .inr h
  have hdec : ∀ i,i<l.length→listed.getD i false=false→pS (Eu (listed.setIfInBounds i true)) l.length≤fuel:=by
   intro i hi hf
   have:=Mp (f:=Eu listed) (g:=Eu (listed.setIfInBounds i true)) (i:=i) (by simp [Eu,hf]) (by simp only [Eu]; rw [zd (by omega)]; simp) hi (fun j _ hne=>by
    simp only [Eu]
    rw [getD_set_ne false (ahZ hne)])
   omega
  rcases hst' with ⟨hj,hrest,i0,hi0,hf0⟩ | ⟨k,hpk,hkl,hk,hw⟩
  ·refine ⟨fun hr=>absurd (Cc hcl hsz hr i0 (by omega)) (by rw [hf0]; simp),fun i hi=>?_⟩
   obtain ⟨o,ho,hf,hp⟩:=wT hsz hi
   have hlt:i<l.length:=(VN.1 ho).1
   have hip:i<p:=by
    rcases WG i p with h | h
    ·exact h
    ·exfalso
     have hs:=Vx.1 hseq i (Y0.2 hlt)
     have:Nat.blt i p=false:=by
      cases hb:Nat.blt i p
      ·rfl
      ·have:=Vg hb; omega
     rw [this] at hs
     cases hci:cl[i]? with
     | none=>simp [hci] at hs
     | some c=>
      simp only [hci,adH] at hs
      have hm:=Vx.1 hs i0 (Y0.2 (by omega))
      have:=vz hcl hd i o c ho hci hp i0 (mem_iff.1 hm)
      rw [hf0] at this; cases this
   refine wpOp_mono (fun a' w' hj' => ih _ a' w' (by simpa using hsz) (Kt hsz hd ho hp) (hdec i hlt hf) (.inl ⟨hj',fun j hpj=>?_⟩)) (hJ listed a w i o hj hd hsz hip ho hf hp)
   rw [getD_set_ne false (by omega)]; exact hrest j hpj
  ·refine ⟨fun hr=>?_,fun i hi=>?_⟩
   ·have hke:k=l.length:=by
     rcases WG k l.length with h | h
     ·have:=Cc hcl hsz hr k h; rw [hk k] at this; simp at this
     ·omega
    rw [hke,adM] at hw
    exact hw
   ·obtain ⟨o,ho,hf,hp⟩:=wT hsz hi
    have hlt:i<l.length:=(VN.1 ho).1
    have hik:i=k:=by
     rw [hk i] at hf
     have hge:k≤i:=by simpa using hf
     rcases WG k i with h | h
     ·exfalso
      have hs:=Vx.1 hseq i (Y0.2 hlt)
      have:Nat.blt i p=false:=by
       cases hb:Nat.blt i p
       ·rfl
       ·have:=Vg hb; omega
      rw [this] at hs
      cases hci:cl[i]? with
      | none=>simp [hci] at hs
      | some c=>
       simp only [hci,adH] at hs
       have hm:=Vx.1 hs k (Y0.2 h)
       have:=vz hcl hd i o c ho hci hp k (mem_iff.1 hm)
       rw [hk k] at this; simp at this
     ·omega
    subst hik
    rw [ZW hlt] at hw
    have hoe:l[i]=o:=by
     have:=XY hlt
     rw [ho] at this
     simpa using this.symm
    rw [hoe] at hw
    have hnext : ∀ a' w',wpList P l.toArray Q (l.drop (i+1)) a' w' → wpAny P .any l.toArray Q fuel (listed.setIfInBounds i true) a' w' := fun a' w' hw' =>
     ih _ a' w' (by simpa using hsz) (Kt hsz hd ho hp) (hdec i hlt hf) (.inr ⟨i+1,by omega,by omega,fun j=>by
      rw [zd (by omega),hk j]
      by_cases hj:j=i
      ·subst hj; simp
      ·have:Nat.beq j i=false:=by
        cases hb:Nat.beq j i
        ·rfl
        ·exact absurd (Vb hb) hj
       rw [this]
       by_cases h:j<i
       ·simp [h,show j<i+1 by omega]
       ·simp [h,show ¬ j<i+1 by omega],hw'⟩)
    unfold wpOp
    rw [show l.toArray[i]? = some o by simpa using ho]
    unfold wpList at hw
    simp only
    split
    ·rename_i hwd
     rw [if_pos hwd] at hw
     exact hw.imp (fun h=>Oper.wp_mono hnext h) id
    ·rename_i hwd
     rw [if_neg hwd] at hw
     exact hnext _ _ hw
theorem Ug {ρ:db} {a:Act} (ha:Rel n ρ a) {j d:Nat} {o:Oper} (ho:l[j]? = some o) (hd:o.dst=some d) (hlt:Nat.blt d n=true) :
  yielded l.toArray a.tmps j=match ρ d with | .bool b=>some b | _=>none:=by
 have hlt' : d<a.tmps.size:=by rw [ha.size]; exact Vg hlt
 have hv:=ha.val d
 simp only [yielded,List.getElem?_toArray,ho,f7,hd]
 simp only [adc,Array.getElem?_eq_getElem hlt',adN] at hv ⊢
 rw [hv]
 cases ρ d <;> rfl
theorem WC {c:bu}:Stp [] w c { w with drawn:=w.drawn+1 } c:=.mk0 (Wb _) (fun _ _=>rfl) (fun _ _ _=>rfl) (fun _ h1 h2=>absurd (Nat.lt_of_le_of_lt h1 h2) (ajD _)) ⟨rfl,rfl⟩
theorem xJ (k i:Nat):(Array.replicate k false).getD i false=false:=by
 rw [adc,ais]; split <;> rfl
theorem Ud (f:Nat→Bool) : ∀ k,pS f k≤k
 | 0=>by simp [pS]
 | k+1=>by
  have:=Ud f k
  simp only [pS]
  cases f k
  ·exact Nat.le_succ_of_le this
  ·exact Nat.succ_le_succ this
end
section
variable {P:Program} {n:Nat} {Q:Exit→Act→World→Prop} {ρ:db} {L:List HA} {o:Oper}
theorem all_cons {es:List OSp} {s:OSp} {ss:List OSp} {c:List Nat} {cs:List (List Nat)} {B:Nat→List HA}  (Li:List HA) (hB:B i=Li) (h1:PV n o s) (h3:xE o=true) (h4:s.pre.all (fun j=>bZ j c)=true) (h5:CI o es s.pre=true) (h5' : WB s es=true)
  (h6:Zr n o s es c) (h7:s.ex=true→Ob P o s es s.pre ρ Li) (h:y8 P n es ρ B l ss cs (i+1)):y8 P n es ρ B (o::l) (s::ss) (c::cs) i:=⟨⟨h1,h3,h4,h5,h5',h6,hB ▸ h7⟩,h⟩
end
abbrev tA (n:Nat) (k:IntKind):Ty:=.arr n Int 0 (Value.int k) (fun _=>rfl)
def w9 (n:Nat) (x y:List Int):Bool:=(List.range n).all fun i=>x.getD i 0==y.getD i 0
section
variable {P:Program} {n:Nat} {ρ:db} {L:List HA} {o:Oper}
def RW (P:Program):List Field→List (Nat×Nat)→Prop
 | [],[]=>True
 | f::fs,p::ps=>f.offset=p.1∧(∃ by_ z,TI P f.type p.2 by_ z)∧RW P fs ps
 | _,_=>False
theorem DM {sz:Nat}   {places:List (Nat×Nat)} {cells:List Value}
  (ho:o.op = .build t parts) (ht:P.underlying t=some (.struct fs)) (hi:TI P t sz by_ z) (hpl:RW P fs.toList places)
  (hp:parts.toList.map (fun p=>(p.1,(aQ ρ p.2).cells.toList))=vals) (hfill:pq (fun j=>places[j]?) z.cells.toList vals=some cells):bi P ρ o L (.agg cells.toArray):=fun ev w c he _=>by
 subst he
 have htihi:=hi; clear hi
 obtain ⟨inf,hi,hz,_,_⟩:=htihi.get
 have hm : ∀ (l:List Field) (ps:List (Nat×Nat)),RW P l ps→(l.mapM (fun f=>do pure (f.offset,← sizeOf f.type):Field→Sem (Nat×Nat))).run P w = .ok ps w:=by
  intro l
  induction l with
  | nil=>intro ps h; cases ps <;> first | rfl | exact h.elim
  | cons f l ih=>
   intro ps h
   cases ps with
   | nil=>exact h.elim
   | cons p ps=>
    obtain ⟨h1,⟨_,_,h2⟩,h3⟩:=h
    obtain ⟨i,hi,_,hs',_⟩:=h2.get
    have hs:(sizeOf f.type).run P w = .ok p.2 w:=by simp [sizeOf,typeInfo,hi,hs']
    simp only [ajA,Sem.run_bind,hs,Result.andThen_ok,Sem.run_pure,ih ps h3,h1]
 have hpl' : (fs.mapM (fun f=>do pure (f.offset,← sizeOf f.type):Field→Sem (Nat×Nat))).run P w = .ok places.toArray w:=by
  rw [ahN,Sem.run_map,hm _ _ hpl]
  rfl
 have hfill' := xI (fun j=>places.toArray[j]?) parts ρ vals z.cells.toList cells hp (by simpa using hfill)
 simp only [Array.toArray_toList] at hfill'
 simp only [execOp,ho,Instr.build,Sem.run_bind,zeroValue,typeInfo,run_program,Result.andThen_ok,hi,hz,Sem.run_pure,run_underlying ht,hpl']
 rw [hfill']
 rfl
theorem EQ {e:TypeId} {k:Nat} {sz esz eby:Nat} {ez:Value} {cells:List Value}
  (ho:o.op = .build t parts) (ht:P.underlying t=some (.array k e)) (hi:TI P t sz by_ z) (he:TI P e esz eby ez)
  (hp:parts.toList.map (fun p=>(p.1,(aQ ρ p.2).cells.toList))=vals) (hfill:pq (fun j=>some (j * esz,esz)) z.cells.toList vals=some cells):bi P ρ o L (.agg cells.toArray):=fun ev w c hev _=>by
 subst hev
 have htihi:=hi; clear hi
 obtain ⟨inf,hi,hz,_,_⟩:=htihi.get
 have htihe:=he; clear he
 obtain ⟨einf,he,_,rfl,_⟩:=htihe.get
 have hfill' := xI (fun j=>some (j * einf.size,einf.size)) parts ρ vals z.cells.toList cells hp hfill
 simp only [Array.toArray_toList] at hfill'
 simp only [execOp,ho,Instr.build,Sem.run_bind,zeroValue,typeInfo,run_program,Result.andThen_ok,hi,hz,Sem.run_pure,run_underlying ht,sizeOf,he]
 rw [hfill']
 rfl
def AU (tmps:Array Value):ResultVar→Sem Value
 | .tmp t=>pure (tmps.getD t undef)
 | .cell x t=>do loadVar t (← asAddr (tmps.getD x undef))
def F5 (P:Program) (ρ:db) (L:List HA) (r:ResultVar) (v:Value):Prop:=∀ (a:Act) (w:World) (c:bu),(∀ t,a.tmps.getD t undef=ρ t)→am w c L→(AU a.tmps r).run P w = .ok v w
theorem ah3 {t:Tmp} {v:Value} (h:ρ t=v):F5 P ρ L (.tmp t) v:=fun a w _ ha _=>by simp only [AU,ha,h]; rfl
theorem XC {x:Tmp} {b:Nat}  {v:Value} (k:Nat) (hk:L[k]? = some (.box i b cs)) (ht:P.underlying t=some d)
  (hd:lk d=false) (hx:ρ x = .pointer (some ⟨b,0,none⟩)) (hv:cs[0]? = some v):F5 P ρ L (.cell x t) v:=fun a w c ha hL=>by
 obtain ⟨⟨ty,hb⟩,_⟩:=hL.at hk
 simp only [AU,ha,hx]
 simp [asAddr,loadVar,mv ht hd,mC hb,hv,Result.andThen]
theorem V0 {x:Tmp} {b:Nat}  {sz:Nat}  (k:Nat) (hk:L[k]? = some (.box i b cs)) (ht:P.underlying t=some d)
  (hd:lk d=true) (hi:TI P t sz by_ z) (hx:ρ x = .pointer (some ⟨b,0,none⟩)) (hl:Nat.beq cs.length sz=true):F5 P ρ L (.cell x t) (.agg cs.toArray):=fun a w c ha hL=>by
 have htihi:=hi; clear hi
 obtain ⟨inf,hi,_,rfl,_⟩:=htihi.get
 obtain ⟨⟨ty,hb⟩,_⟩:=hL.at hk
 have hl' := Vb hl
 have hload:=run_loadCells_list (P:=P) (w:=w) ⟨b,0,none⟩ cs (fun j v hv=>by
  rw [eP,mC hb]; simpa using hv)
 rw [hl'] at hload
 simp only [AU,ha,hx]
 simp [asAddr,loadVar,wP ht hd,sizeOf,typeInfo,hi,hload,Result.andThen]
def R7 (P:Program) (ρ:db) (L:List HA):List ResultVar→List Value→Prop
 | [],[]=>True
 | r::rs,v::vs=>F5 P ρ L r v∧R7 P ρ L rs vs
 | _,_=>False
theorem Im {a:Act} {w:World} {c:bu} (ha : ∀ t,a.tmps.getD t undef=ρ t) (hL:am w c L) : ∀ {rs:List ResultVar} {vs:List Value},R7 P ρ L rs vs→(rs.mapM (AU a.tmps)).run P w = .ok vs w
 | [],[],_=>rfl
 | r::rs,v::vs,⟨h1,h2⟩=>by
  simp only [ajA,Sem.run_bind,h1 a w c ha hL,Result.andThen_ok,Im ha hL h2,Sem.run_pure]
 | [],_::_,h=>h.elim
 | _::_,[],h=>h.elim
theorem zP {fn:Func} {rs:List ResultVar} (h:fn.results=rs.toArray) {a:Act}  {c:bu} (ha : ∀ t,a.tmps.getD t undef=ρ t) (hL:am w c L) (hr:R7 P ρ L rs vs) :
  (results fn a.tmps).run P w = .ok (if h:vs.toArray.size=1 then vs.toArray[0] else .tuple vs.toArray) w:=by
 have he:results fn a.tmps=(do let vs ← fn.results.mapM (AU a.tmps); pure (if h:vs.size=1 then vs[0] else .tuple vs)):=by
  unfold results
  congr 2
 rw [he,h]
 simp only [Sem.run_bind]
 rw [show (Array.mapM (AU a.tmps) rs.toArray).run P w = .ok vs.toArray w by rw [ahN,Sem.run_map]; simp only [Im ha hL hr]; rfl]
 rfl
theorem Cn (d:Nat) {e:TypeId}  {k:IntKind} {i:TypeInfo} (x y:List Int) (ht:P.underlying t=some (.array m e)) (he:P.underlying e=some (.int k)) (hi:P.info? e=some i) (hs:i.size=1) :
  (Op.equalIn (d+2) t (.agg ((tA m k).fill x ()).toArray) (.agg ((tA m k).fill y ()).toArray)).run P w = .ok (w9 m x y) w:=by
 rw [run_equalIn_array (P:=P) w (d+1) _ _ ht hi]
 have hc:P.cellsOf e=1:=by simp [Program.cellsOf,hi,hs]
 have gen : ∀ is:List Nat,(∀ j∈is,j<m)→(Op.eqItems (d+1) e (P.cellsOf e) ((tA m k).fill x ()).toArray ((tA m k).fill y ()).toArray is).run P w = .ok (is.all fun i=>x.getD i 0==y.getD i 0) w:=by
  intro is
  induction is with
  | nil=>intro _; simp [Op.eqItems]
  | cons j is ih=>
   intro hj
   have hjm:j<m:=hj j (by simp)
   have hx:(part e ((tA m k).fill x ()).toArray (j * P.cellsOf e)).run P w = .ok (.int k (x.getD j 0)) w:=by
    simp [part,mv he rfl,hc,Ty.fill,hjm,Result.andThen]
   have hy:(part e ((tA m k).fill y ()).toArray (j * P.cellsOf e)).run P w = .ok (.int k (y.getD j 0)) w:=by
    simp [part,mv he rfl,hc,Ty.fill,hjm,Result.andThen]
   simp only [Op.eqItems,Sem.run_bind,hx,hy,Result.andThen_ok,run_equalIn_int w d e k k _ _ he,ZN]
   have ih' := ih fun j' hj' => hj j' (by simp [hj'])
   cases hb:(x.getD j 0==y.getD j 0)
   ·simp
   ·simp [ih']
 exact gen _ fun j hj=>by simpa using hj
theorem UI {e:TypeId} {a b:Operand} {k:IntKind}   {x y:List Int} (ho:o.op = .binOp .eql t a b t') (ht:P.underlying t=some (.array m e)) (he:P.underlying e=some (.int k)) (hi:TI P e 1 by_ z)
  (hg:P.eqGuardType P.depth t=false) (hx:aQ ρ a = .agg ((tA m k).fill x ()).toArray) (hy:aQ ρ b = .agg ((tA m k).fill y ()).toArray):bi P ρ o L (.bool (w9 m x y)):=fun ev w c hev _=>by
 subst hev
 have htihi:=hi; clear hi
 obtain ⟨i,hi,_,hs,_⟩:=htihi.get
 have h1:(eqGuard .eql t a b (.agg ((tA m k).fill x ()).toArray) (.agg ((tA m k).fill y ()).toArray)).run P w = .ok () w:=run_eqGuard_agg w .eql t a b _ _ hg
 have h2:(binOp .eql t (.agg ((tA m k).fill x ()).toArray) (.agg ((tA m k).fill y ()).toArray)).run P w = .ok (.bool (w9 m x y)) w:=by
  rw [run_eql_struct,Cn 9998 x y ht he hi hs]; rfl
 simp only [execOp,ho,hx,hy,Sem.run_bind,h1,h2,Result.andThen_ok,Sem.run_pure]
theorem YL {x:Operand} {f:Nat}     {v:Value} (ho:o.op = .field t x f) (ht:P.underlying t=some (.struct fs)) (hf:fs[f]? = some fd)
  (hu:P.underlying fd.type=some d) (hd:lk d=false) (hx:aQ ρ x = .agg cs.toArray) (hv:cs[fd.offset]? = some v):bi P ρ o L v:=fun ev w c he _=>by
 subst he
 simp [execOp,ho,hx,Instr.field,run_underlying ht,hf,asAgg,part,mv hu hd,hv,Result.andThen]
theorem VJ {x:Operand} {f:Nat}     {sz:Nat}  (ho:o.op = .field t x f) (ht:P.underlying t=some (.struct fs)) (hf:fs[f]? = some fd)
  (hu:P.underlying fd.type=some d) (hd:lk d=true) (hi:TI P fd.type sz by_ z) (hx:aQ ρ x = .agg cs.toArray) (hv:(cs.drop fd.offset).take sz=cs') :
  bi P ρ o L (.agg cs'.toArray):=fun ev w c he _=>by
 subst he
 have htihi:=hi; clear hi
 obtain ⟨inf,hi,_,rfl,_⟩:=htihi.get
 simp [execOp,ho,hx,Instr.field,run_underlying ht,hf,asAgg,part,wP hu hd,sizeOf,typeInfo,hi,hv,Result.andThen]
abbrev ad (n:Int):Int:=IntKind.i64.wrap n
def aJ (m k b:Nat):Bool:=decide ((m+k) * b≤140737488355328∧m+k≤maxLen)
def af {α:Type} (b:Bool) (m:Option α):Option α:=bif b then m else none
theorem Jy {b:Bool} {m:Option α} {r:α} (h:af b m=some r):b=true∧m=some r:=by
 cases b
 ·cases h
 ·exact ⟨rfl,h⟩
end
end Go.Sm
